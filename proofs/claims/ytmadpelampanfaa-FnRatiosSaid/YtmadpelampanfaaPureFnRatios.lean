/- The pure side of FnRatios: no tried fraction is nearer to the goal than the best ratio, and the numbers of the continued fraction make the goal again. No conditions. -/
import Derived.Test.YtmadpelampanfaaA3
import Derived.Test.YtmadpelampanfaaFrac
import Derived.Test.YtmadpelampanfaaRatBest
import Derived.Test.YtmadpelampanfaaEuclid
namespace Go.Proofs.Ytmadpelampanfaa.Pure
set_option linter.unusedVariables false
set_option linter.unusedSimpArgs false
open Go.RowKit Go.Proofs.Ytmadpelampanfaa.A Go.Proofs.YtmadpelampanfaaW.PrintWords Go.Proofs.YtmadpelampanfaaW.PrintLast Go.Proofs.YtmadpelampanfaaW.PrintMore
theorem ev_at {α : Type} {g : Nat → Option α} {r : α} (h : ∃ m, ∀ K, g (K + m) = some r) : Ev g r := by
  obtain ⟨m, h⟩ := h
  refine ⟨m, fun k hk => ?_⟩
  have := h (k - m)
  rwa [Nat.sub_add_cancel hk] at this
def U8 (l : List Int) : Prop := ∀ x ∈ l, (Lit.int .u8 x).wf = true
theorem u8_rd {l : List Int} (h : U8 l) (i : Int) : 0 ≤ rd l i ∧ rd l i ≤ 255 := by
  unfold rd
  rw [List.getD_eq_getElem?_getD]
  rcases hq : l[i.toNat]? with _ | x
  · simp
  · have hm := h x (List.mem_of_getElem? hq)
    simp only [Lit.wf, Bool.and_eq_true, decide_eq_true_eq] at hm
    have e1 : IntKind.u8.min = 0 := rfl
    have e2 : IntKind.u8.max = 255 := rfl
    simp only [Option.getD_some]; omega
theorem b10At_eq {l : List Int} (h : U8 l) (k n : Int) (hk : 0 ≤ k ∧ k ≤ 1000000) (hn : 1 ≤ n) : ∃ x, laws_b10At.f l k n = some x ∧ 0 ≤ x ∧ x < n := by
  unfold laws_b10At.f
  by_cases h1 : n ≤ 1
  · exact ⟨0, by rw [if_pos h1], by omega, by omega⟩
  · rw [if_neg h1]
    by_cases h2 : k < (l.length : Int)
    · have hr := u8_rd h k
      rw [if_pos h2, if_pos hk.1, if_neg (by omega), w64' (by omega) (by omega), Int.tmod_eq_emod_of_nonneg hr.1]
      exact ⟨_, rfl, Int.emod_nonneg _ (by omega), Int.emod_lt_of_pos _ (by omega)⟩
    · rw [if_neg h2, if_neg (by omega), w64' (x := k * 37) (by omega) (by omega), w64' (by omega) (by omega), Int.tmod_eq_emod_of_nonneg (by omega)]
      exact ⟨_, rfl, Int.emod_nonneg _ (by omega), Int.emod_lt_of_pos _ (by omega)⟩
theorem missI_abs (gn gd n d : Int) : missI gn gd n d = ((gn * d - n * gd).natAbs : Int) := by
  unfold missI
  generalize gn * d = q
  generalize n * gd = p
  split <;> omega
theorem mx_abs (x : Int) (h0 : -9223372036854775807 ≤ x) (h1 : x ≤ 9223372036854775807) : mx x (wrap64 (-x)) = (x.natAbs : Int) := by
  rw [w64' (by omega) (by omega)]
  unfold mx
  split <;> omega
theorem low_parts (a e : Int) (he : 1 ≤ e) : ∃ g : Nat, 0 < g ∧ a = g * numI a e ∧ e = g * denI a e ∧ 1 ≤ denI a e ∧ Nat.gcd (numI a e).natAbs (denI a e).natAbs = 1 := by
  have hl := lowest a e (by omega)
  refine ⟨Nat.gcd a.natAbs e.natAbs, Nat.gcd_pos_of_pos_right _ (by omega), ?_, ?_, hl.1, hl.2⟩
  · unfold numI gcdI sgn
    rw [decide_eq_false (show ¬ e < 0 by omega)]
    have h := Nat.mul_div_cancel' (Nat.gcd_dvd_left a.natAbs e.natAbs)
    have h' : ((Nat.gcd a.natAbs e.natAbs : Nat) : Int) * ((a.natAbs : Int) / ((Nat.gcd a.natAbs e.natAbs : Nat) : Int)) = (a.natAbs : Int) := by rw [← Int.natCast_ediv, ← Int.natCast_mul, h]
    by_cases c : a < 0
    · rw [decide_eq_true c]; simp; rw [Int.mul_neg, h']; omega
    · rw [decide_eq_false c]; simp; rw [h']; omega
  · unfold denI gcdI
    have h := Nat.mul_div_cancel' (Nat.gcd_dvd_right a.natAbs e.natAbs)
    rw [← Int.natCast_ediv, ← Int.natCast_mul, h]; omega
/-- One of the two neighbours that is drawn: not nearer than the best ratio in lowest terms. -/
theorem near_low {gn gd : Int} (M d : Nat) (j bn bd : Int) (g : Nat) (hg : 0 < g) (h1 : 1 ≤ d) (h2 : d ≤ M) (hj : j = 0 ∨ j = 1) (e1 : (brTo gn gd M).1 = g * bn) (e2 : (brTo gn gd M).2 = g * bd) :
    missI gn gd bn bd * (d : Int) ≤ missI gn gd (gn * (d : Int) / gd + j) (d : Int) * bd := by
  have h := brTo_best gn gd M d j h1 h2 hj
  rw [e1, e2] at h
  have s : missI gn gd (g * bn) (g * bd) = g * missI gn gd bn bd := by
    rw [missI_abs, missI_abs]
    have : gn * (↑g * bd) - ↑g * bn * gd = ↑g * (gn * bd - bn * gd) := by grind
    rw [this, Int.natAbs_mul, Int.natCast_mul]; rfl
  rw [s] at h
  have hg' : (0 : Int) < g := by omega
  have e3 : missI gn gd (gn * (d : Int) / gd + j) (d : Int) * (g * bd) = g * (missI gn gd (gn * (d : Int) / gd + j) (d : Int) * bd) := by grind
  rw [e3, Int.mul_assoc] at h
  exact Int.le_of_mul_le_mul_left h hg'
theorem rd_mid' (p : List Int) (x : Int) (l : List Int) (i : Int) (h : i = p.length) : rd (p ++ x :: l) i = x := by
  subst h; unfold rd; simp
def up (l : List Nat) : List Int := l.map (fun q : Nat => (q : Int))
theorem back_le (n d : Nat) (hg : 0 < Nat.gcd n d) : (back (cfl n d)).1 ≤ n ∧ (back (cfl n d)).2 ≤ d := by
  obtain ⟨h1, h2⟩ := back_cfl d n hg
  constructor
  · exact Nat.le_trans (Nat.le_mul_of_pos_right _ hg) (Nat.le_of_eq h1)
  · exact Nat.le_trans (Nat.le_mul_of_pos_right _ hg) (Nat.le_of_eq h2)
/-- Back from the end of the numbers to the goal. -/
theorem ev_back (x0 x1 : Int) (r : Bool) : ∀ (d n : Nat) (p : List Int), 0 < Nat.gcd n d → n ≤ 1000000000 → d ≤ 1000000000 → (p ≠ [] → d ≤ n) → (p.length + d ≤ 1000000000) →
    Ev (fun k => laws_FnRatios.l1 k (p ++ up (cfl n d)) ((back (cfl n d)).1 : Int) ((back (cfl n d)).2 : Int) ((p.length : Int) - 1) x0 x1) r →
    Ev (fun k => laws_FnRatios.l1 k (p ++ up (cfl n d)) 1 0 (((p ++ up (cfl n d)).length : Int) - 1) x0 x1) r := by
  intro d
  induction d using Nat.strongRecOn with
  | _ d ih =>
    intro n p hg hn hd hp hl h
    by_cases c : d = 0
    · subst c
      have e : cfl n 0 = [] := by unfold cfl; rw [dif_pos rfl]
      rw [e] at h ⊢
      simpa [up, back] using h
    · have e : cfl n d = (n / d) :: cfl d (n % d) := by conv => lhs; unfold cfl
                                                        rw [dif_neg c]
      have hg2 : 0 < Nat.gcd d (n % d) := Nat.gcd_pos_of_pos_left _ (by omega)
      have hm := Nat.mod_lt n (show 0 < d by omega)
      have hq := Nat.div_le_self n d
      have hb := back_le n d hg
      have hb2 := back_le d (n % d) hg2
      rw [e] at h hb ⊢
      have eb : back ((n / d) :: cfl d (n % d)) = ((n / d) * (back (cfl d (n % d))).1 + (back (cfl d (n % d))).2, (back (cfl d (n % d))).1) := rfl
      rw [eb] at h hb
      have eu : p ++ up ((n / d) :: cfl d (n % d)) = (p ++ [((n / d : Nat) : Int)]) ++ up (cfl d (n % d)) := by simp [up]
      have eu2 : p ++ up ((n / d) :: cfl d (n % d)) = p ++ ((n / d : Nat) : Int) :: up (cfl d (n % d)) := by simp [up]
      have pos : p ≠ [] → 1 ≤ n / d := fun z => (Nat.one_le_div_iff (by omega)).2 (hp z)
      have i := ih (n % d) hm d (p ++ [((n / d : Nat) : Int)]) hg2 hd (by omega) (fun _ => by omega) (by simp; omega)
      rw [← eu] at i
      refine i ?_
      have hlen : ((p ++ [((n / d : Nat) : Int)]).length : Int) - 1 = p.length := by simp
      rw [hlen]
      have rdq := rd_mid' p ((n / d : Nat) : Int) (up (cfl d (n % d))) (p.length : Int) rfl
      rw [← eu2] at rdq
      have hL : (p.length : Int) < ((p ++ up ((n / d) :: cfl d (n % d))).length : Int) := by rw [eu2]; simp; omega
      obtain ⟨L, hLL⟩ : ∃ L, p ++ up ((n / d) :: cfl d (n % d)) = L := ⟨_, rfl⟩
      rw [hLL] at h rdq hL ⊢
      obtain ⟨A, hA⟩ : ∃ A, (back (cfl d (n % d))).1 = A := ⟨_, rfl⟩
      obtain ⟨B, hB⟩ : ∃ B, (back (cfl d (n % d))).2 = B := ⟨_, rfl⟩
      rw [hA, hB] at h hb hb2
      rw [hA, hB]
      dsimp only at h hb hb2
      obtain ⟨Q, hQ⟩ : ∃ Q, n / d = Q := ⟨_, rfl⟩
      rw [hQ] at h hb rdq pos hq
      obtain ⟨P, hP⟩ : ∃ P, Q * A = P := ⟨_, rfl⟩
      rw [hP] at h hb
      have hPi : (Q : Int) * (A : Int) = (P : Int) := by rw [← hP]; simp
      have hpl : p.length ≠ 0 → p ≠ [] := fun z y => z (by rw [y]; rfl)
      clear hQ hA hB hLL eu eu2 eb ih i e hlen hP
      refine Ev.step (f := fun k => laws_FnRatios.j3 k L (A : Int) (B : Int) (p.length : Int) false x0 x1) (fun k => ?_) (Ev.step (f := fun k => laws_FnRatios.l1 k L ((P + B : Nat) : Int) (A : Int) ((p.length : Int) - 1) x0 x1) (fun k => ?_) h)
      · simp only [laws_FnRatios.l1]
        rw [if_pos (by omega), if_pos (by omega), if_pos hL, rdq, if_neg (by omega), if_neg (by omega)]
        by_cases c0 : (p.length : Int) > 0
        · rw [if_pos c0]
          have := pos (hpl (by omega))
          rw [decide_eq_false (by omega)]
        · rw [if_neg c0]
      · simp only [laws_FnRatios.j3]
        rw [if_neg (by decide), if_pos (by omega), if_pos hL, rdq, hPi, w64' (x := (P : Int)) (by omega) (by omega), w64' (x := (P : Int) + (B : Int)) (by omega) (by omega), w64' (x := (p.length : Int) - 1) (by omega) (by omega), if_neg (by omega)]
        rfl
/-- The list's way back makes the goal. -/
theorem ev_goalback (gn gd : Nat) (h1 : 1 ≤ gd) (h2 : gd ≤ 1000000) (h3 : gn ≤ 1000000) (hg : Nat.gcd gn gd = 1) :
    Ev (fun k => laws_FnRatios.l1 k (up (cfl gn gd)) 1 0 (((up (cfl gn gd)).length : Int) - 1) (gn : Int) (gd : Int)) true := by
  have b := back_cfl gd gn (by omega)
  rw [hg] at b
  have h := ev_back (gn : Int) (gd : Int) true gd gn [] (by omega) (by omega) (by omega) (fun z => absurd rfl z) (by simp; omega) ?_
  · simpa using h
  · refine Ev.step (f := fun _ => some true) (fun k => ?_) (Ev.now _)
    simp only [laws_FnRatios.l1, List.nil_append, List.length_nil]
    rw [if_neg (by decide)]
    have e1 : (back (cfl gn gd)).1 = gn := by omega
    have e2 : (back (cfl gn gd)).2 = gd := by omega
    rw [e1, e2, make_small _ _ (by omega) (by omega) (by omega)]
    have hk : okF (gn : Int) (gd : Int) = true := okF_iff.2 ⟨by omega, by omega, by simpa using hg⟩
    obtain ⟨q1, q2⟩ := low_num hk
    rw [q1, q2]
    simp
theorem steps_eq {gn gd : Int} (h : goalB gn gd = true) : Ev (fun k => impl_RatioSteps.f k gn gd) (up (cfl gn.toNat gd.toNat), true) := by
  obtain ⟨g1, g2, g3, g4⟩ := goalB_parts h
  obtain ⟨n, rfl⟩ := Int.eq_ofNat_of_zero_le g3
  obtain ⟨d, rfl⟩ := Int.eq_ofNat_of_zero_le (show 0 ≤ gd by omega)
  rw [Int.toNat_natCast, Int.toNat_natCast]
  unfold impl_RatioSteps.f
  refine Ev.bind (a := true) ?_ ?_
  · obtain ⟨k, hk⟩ := isGoal_is (n : Int) (d : Int)
    rw [h] at hk
    exact Ev.of (fun k => impl_isGoal.mono _ _ k) hk
  · simp only [if_true]
    exact ev_steps d n [] (by omega) (by omega) (by simp; omega)
theorem FnRatios : laws_FnRatios.Pure := by
  intro l0 l1 a1 _ u0 b1 _ u1
  refine Ev.rounds ?_
  show Ev (fun k => laws_FnRatios.f k l0 l1) true
  unfold laws_FnRatios.f
  have hl : ∃ t, laws_b10Long.f l0 l1 = some t ∧ (t = false → l0.length ≤ 1048576 ∧ l1.length ≤ 1048576) := by
    unfold laws_b10Long.f
    by_cases c : (l0.length : Int) > 1048576
    · exact ⟨true, if_pos c, fun z => by cases z⟩
    · rw [if_neg c]
      refine ⟨_, rfl, fun z => ?_⟩
      have := of_decide_eq_false z
      omega
  obtain ⟨t, ht, hsz⟩ := hl
  simp only [ht, Option.bind_some]
  by_cases htt : t = true
  · subst htt; exact Ev.now _
  have htt : t = false := by simpa using htt
  subst htt
  obtain ⟨z0, z1⟩ := hsz rfl
  obtain ⟨x0, e0, p0, q0⟩ := b10At_eq u0 0 256 (by omega) (by omega)
  obtain ⟨x1, e1, p1, q1⟩ := b10At_eq u0 1 40 (by omega) (by omega)
  obtain ⟨x2, e2, p2, q2⟩ := b10At_eq u0 2 256 (by omega) (by omega)
  simp only [e0, e1, e2, Option.bind_some, Bool.false_eq_true, if_false]
  rw [w64' (x := 256 * x1) (by omega) (by omega), w64' (x := 256 * x1 + x2) (by omega) (by omega), w64' (x := 3 * x0) (by omega) (by omega), w64' (x := 1 + 3 * x0) (by omega) (by omega),
    make_small _ _ (by omega) (by omega) (by omega)]
  simp only [Option.bind_some, if_true]
  obtain ⟨g, hg, n1, n2, n3, n4⟩ := low_parts (256 * x1 + x2) (1 + 3 * x0) (by omega)
  have nl := numI_le (256 * x1 + x2) (1 + 3 * x0)
  have dl := denI_le (256 * x1 + x2) (1 + 3 * x0)
  obtain ⟨gn, hgn⟩ : ∃ gn, numI (256 * x1 + x2) (1 + 3 * x0) = gn := ⟨_, rfl⟩
  obtain ⟨gd, hgd⟩ : ∃ gd, denI (256 * x1 + x2) (1 + 3 * x0) = gd := ⟨_, rfl⟩
  rw [hgn, hgd] at n4
  rw [hgn] at n1 nl
  rw [hgd] at n2 n3 dl
  rw [hgn, hgd]
  have gn0 : 0 ≤ gn := by
    by_cases c : gn < 0
    · have : (g : Int) * gn < 0 := Int.mul_neg_of_pos_of_neg (by omega) c
      omega
    · omega
  have gd1 : gd ≤ 1000 := by omega
  have gn1 : gn ≤ 20000 := by omega
  clear hgn hgd n1 n2 e0 e1 e2 nl dl
  rw [w64' (x := 1000 * gd) (by omega) (by omega)]
  by_cases c : gn > 1000 * gd
  · simp only [if_pos c]; exact Ev.now _
  simp only [if_neg c]
  have okg : okF gn gd = true := okF_iff.2 ⟨by omega, by omega, n4⟩
  have goal : goalB gn gd = true := by
    unfold goalB; rw [okg, Bool.true_and]; exact decide_eq_true (by omega)
  obtain ⟨x3, e3, p3, q3⟩ := b10At_eq u1 0 40 (by omega) (by omega)
  simp only [e3, Option.bind_some]
  simp only [w64' (x := 1 + x3) (by omega) (by omega)]
  obtain ⟨M, hM⟩ := Int.eq_ofNat_of_zero_le (show 0 ≤ 1 + x3 by omega)
  simp only [hM]
  clear e3
  have hbr : impl_BestRatio.f gn gd (M : Int) = some (mkF (brTo gn gd M).1 (brTo gn gd M).2) := by
    unfold impl_BestRatio.f
    rw [if_pos ⟨goal, by omega, by omega⟩, Int.toNat_natCast]
  obtain ⟨⟨bb0, bb1⟩, ⟨bb2, bb3⟩⟩ := brTo_ok goal M (by omega)
  obtain ⟨bd_le, bd_pos⟩ := brTo_den gn gd M
  have bp := bd_pos (by omega)
  rw [mkF_small _ _ (by omega) (by omega) (by omega)] at hbr
  obtain ⟨h, hh, m1, m2, m3, m4⟩ := low_parts (brTo gn gd M).1 (brTo gn gd M).2 (by omega)
  have nl := numI_le (brTo gn gd M).1 (brTo gn gd M).2
  have dl := denI_le (brTo gn gd M).1 (brTo gn gd M).2
  obtain ⟨bn, hbn⟩ : ∃ bn, numI (brTo gn gd M).1 (brTo gn gd M).2 = bn := ⟨_, rfl⟩
  obtain ⟨bd, hbd⟩ : ∃ bd, denI (brTo gn gd M).1 (brTo gn gd M).2 = bd := ⟨_, rfl⟩
  rw [hbn, hbd] at m4 hbr
  rw [hbn] at m1 nl
  rw [hbd] at m2 m3 dl
  simp only [hbr, Option.bind_some, if_true]
  have bdM : bd ≤ (M : Int) := by omega
  have bn0 : 0 ≤ bn := by
    by_cases c : bn < 0
    · have : (h : Int) * bn < 0 := Int.mul_neg_of_pos_of_neg (by omega) c
      omega
    · omega
  have bn1 : bn ≤ 10000001 := by omega
  have okb : okF bn bd = true := okF_iff.2 ⟨by omega, by omega, m4⟩
  refine Ev.bind (steps_eq goal) ?_
  simp only [if_true, if_neg (show ¬ bd > (M : Int) by omega)]
  refine Ev.bind (ev_at (valid_is bn bd)) ?_
  simp only [okb, if_true]
  obtain ⟨GN, rfl⟩ := Int.eq_ofNat_of_zero_le gn0
  obtain ⟨GD, rfl⟩ := Int.eq_ofNat_of_zero_le (show 0 ≤ gd by omega)
  rw [Int.toNat_natCast, Int.toNat_natCast]
  have ne : ((((up (cfl GN GD)).length : Int)) == 0) = false := by
    rw [beq_eq_false_iff_ne]
    have : cfl GN GD = (GN / GD) :: cfl GD (GN % GD) := by conv => lhs; unfold cfl
                                                           rw [dif_neg (by omega)]
    rw [this]; simp [up]; omega
  rw [ne]
  have fin := ev_goalback GN GD (by omega) (by omega) (by omega) (by simpa using n4)
  have hw : ((up (cfl GN GD)).length : Int) ≤ 1000000000 := by
    have : ∀ (d n : Nat), (cfl n d).length ≤ d := by
      intro d
      induction d using Nat.strongRecOn with
      | _ d ih =>
        intro n
        unfold cfl
        by_cases c : d = 0
        · rw [dif_pos c]; simp
        · rw [dif_neg c]
          have := ih (n % d) (Nat.mod_lt _ (by omega)) d
          have := Nat.mod_lt n (show 0 < d by omega)
          simp; omega
    have := this GD GN
    unfold up; rw [List.length_map]; omega
  obtain ⟨L, hL⟩ : ∃ L, up (cfl GN GD) = L := ⟨_, rfl⟩
  rw [hL] at fin hw ⊢
  obtain ⟨x4, e4, p4, q4⟩ := b10At_eq u1 1 (M : Int) (by omega) (by omega)
  obtain ⟨D, hD⟩ := Int.eq_ofNat_of_zero_le (show 0 ≤ 1 + x4 by omega)
  have nr0 := near_low (gn := (GN : Int)) (gd := (GD : Int)) M D 0 bn bd h hh (by omega) (by omega) (.inl rfl) m1 m2
  have nr1 := near_low (gn := (GN : Int)) (gd := (GD : Int)) M D 1 bn bd h hh (by omega) (by omega) (.inr rfl) m1 m2
  clear hbr okb m1 m2 m4 hbn hbd okg n4 u0 u1 hL ne bd_pos bd_le bb0 bb1 bb2 bb3 bp nl dl
  have cd0 := brCand_ok goal (d := (D : Int)) (j := 0) (by omega) (by omega)
  have cd1 := brCand_ok goal (d := (D : Int)) (j := 1) (by omega) (by omega)
  obtain ⟨-, ⟨r0, r1⟩, -, -⟩ := missI_le goal (show 0 ≤ (0 : Int) ∧ (0 : Int) ≤ 10000001 by omega) (show 0 ≤ (D : Int) ∧ (D : Int) ≤ 10000 by omega)
  unfold BrOk brCand at cd0 cd1
  dsimp only at cd0 cd1
  obtain ⟨Q, hQ⟩ : ∃ Q, (GN : Int) * (D : Int) / (GD : Int) = Q := ⟨_, rfl⟩
  have hQt : Int.tdiv ((GN : Int) * (D : Int)) (GD : Int) = Q := by rw [Int.tdiv_eq_ediv_of_nonneg r0]; exact hQ
  rw [hQ] at cd0 cd1 nr0 nr1
  refine Ev.step (f := fun k => laws_FnRatios.l0 k L (D : Int) Q 0 (GN : Int) (GD : Int) bn bd) (fun k => ?_) ?_
  · simp only [laws_FnRatios.j0]
    rw [if_neg (by decide), e4, Option.bind_some, if_neg (by omega), w64' (x := 1 + x4) (by omega) (by omega), hD, w64' (x := (GN : Int) * (D : Int)) (by omega) (by omega), hQt, w64' (x := Q) (by omega) (by omega)]
  clear e4 hQ hQt
  -- one round
  have one : ∀ j : Int, (j = 0 ∨ j = 1) → missI (GN : Int) (GD : Int) bn bd * (D : Int) ≤ missI (GN : Int) (GD : Int) (Q + j) (D : Int) * bd → (0 ≤ Q + j ∧ Q + j ≤ 10000001) → ∀ k, laws_FnRatios.l0 (k + 1) L (D : Int) Q j (GN : Int) (GD : Int) bn bd = laws_FnRatios.l0 k L (D : Int) Q (j + 1) (GN : Int) (GD : Int) bn bd := by
    intro j hj hm hb k
    obtain ⟨⟨y1, y2⟩, ⟨y3, y4⟩, y5, y6⟩ := missI_le goal (n := Q + j) (d := (D : Int)) hb (by omega)
    obtain ⟨⟨v1, v2⟩, ⟨v3, v4⟩, v5, v6⟩ := missI_le goal (n := bn) (d := bd) (by omega) (by omega)
    have w1 := br_mul y5 y6 (show 0 ≤ bd by omega) (show bd ≤ 10000 by omega)
    have w2 := br_mul v5 v6 (show 0 ≤ (D : Int) by omega) (show (D : Int) ≤ 10000 by omega)
    have e_ : (10000001000000 : Int) * 10000 = 100000010000000000 := by decide
    rw [e_] at w1 w2
    simp only [missI_abs] at hm w1 w2 y6 v6
    simp only [laws_FnRatios.l0]
    rw [if_pos (by omega), w64' (x := Q + j) (by omega) (by omega), w64' (x := (GN : Int) * (D : Int)) (by omega) (by omega), w64' (x := (Q + j) * (GD : Int)) (by omega) (by omega),
      w64' (x := (GN : Int) * (D : Int) - (Q + j) * (GD : Int)) (by omega) (by omega), mx_abs _ (by omega) (by omega),
      w64' (x := (GN : Int) * bd) (by omega) (by omega), w64' (x := bn * (GD : Int)) (by omega) (by omega),
      w64' (x := (GN : Int) * bd - bn * (GD : Int)) (by omega) (by omega), mx_abs _ (by omega) (by omega),
      w64' (x := (((GN : Int) * (D : Int) - (Q + j) * (GD : Int)).natAbs : Int) * bd) (by omega) (by omega),
      w64' (x := (((GN : Int) * bd - bn * (GD : Int)).natAbs : Int) * (D : Int)) (by omega) (by omega), if_neg (by omega), w64' (x := j + 1) (by omega) (by omega)]
  refine Ev.step (one 0 (.inl rfl) nr0 (by omega)) (Ev.step (one 1 (.inr rfl) nr1 (by omega)) ?_)
  refine Ev.step (f := fun k => laws_FnRatios.l1 k L 1 0 ((L.length : Int) - 1) (GN : Int) (GD : Int)) (fun k => ?_) fin
  simp only [laws_FnRatios.l0]
  rw [if_neg (by decide), w64' (x := (L.length : Int) - 1) (by omega) (by omega)]
end Go.Proofs.Ytmadpelampanfaa.Pure
