/- The first meeting of clocks, as the program and as the reference find it: both find the answer, which is one. No conditions. -/
import Derived.Test.YtfoedfigjcmjbaaClocks
import Derived.Test.YtfoedfigjcmjbaaA36
import Derived.Test.YtfoedfigjcmjbaaA38
namespace Go.Proofs.Ytfoedfigjcmjbaa.L
set_option linter.unusedVariables false
set_option linter.unusedSimpArgs false
open Go.RowKit Go.Proofs.Ytfoedfigjcmjbaa.A Go.Proofs.YtfoedfigjcmjbaaW.PrintWords Go.Proofs.YtfoedfigjcmjbaaW.PrintLast Go.Proofs.YtfoedfigjcmjbaaW.PrintMore
namespace Meet
/-- All these clocks have an edge at m, or would have, if it is before their offset. -/
def Sol (l : List IC) (m : Int) : Prop := ∀ c ∈ l, c.f0 ∣ m - c.f1
theorem sol_snoc (p : List IC) (c : IC) (m : Int) : Sol (p ++ [c]) m ↔ Sol p m ∧ c.f0 ∣ m - c.f1 := by
  unfold Sol
  constructor
  · intro h; exact ⟨fun d hd => h d (by simp [hd]), h c (by simp)⟩
  · rintro ⟨h1, h2⟩ d hd
    rcases List.mem_append.1 hd with hd | hd
    · exact h1 d hd
    · rw [List.mem_singleton.1 hd]; exact h2
theorem sol_app {p q : List IC} {m : Int} (h : Sol (p ++ q) m) : Sol p m := fun d hd => h d (by simp [hd])
/-- The least common multiple of C and P, as it is computed. -/
theorem lcm_facts (C P : Nat) (hC : 1 ≤ C) (hP : 1 ≤ P) : C ∣ C / Nat.gcd C P * P ∧ P ∣ C / Nat.gcd C P * P ∧ 1 ≤ C / Nat.gcd C P * P ∧ ∀ x : Int, (C : Int) ∣ x → (P : Int) ∣ x → ((C / Nat.gcd C P * P : Nat) : Int) ∣ x := by
  have hg : Nat.gcd C P ∣ C := Nat.gcd_dvd_left _ _
  have g0 : 0 < Nat.gcd C P := Nat.gcd_pos_of_pos_left _ (by omega)
  have e : C / Nat.gcd C P * P = Nat.lcm C P := by
    unfold Nat.lcm; rw [Nat.div_mul_right_comm hg]
  rw [e]
  refine ⟨Nat.dvd_lcm_left _ _, Nat.dvd_lcm_right _ _, Nat.lcm_pos (by omega) (by omega), fun x h1 h2 => ?_⟩
  rw [Int.ofNat_dvd_left] at h1 h2 ⊢
  exact Nat.lcm_dvd h1 h2
theorem lcm_le (C P : Nat) (hC : 1 ≤ C) (hP : 1 ≤ P) : C ≤ C / Nat.gcd C P * P := Nat.le_of_dvd (lcm_facts C P hC hP).2.2.1 (lcm_facts C P hC hP).1
def M : Int := 1000000000000
/-- What is kept of the clocks p that have been looked at: 'mt' is the first meeting from lo on, and they meet there and each C later, as far as this matters up to M. -/
structure Inv (lo mt : Int) (C : Nat) (p : List IC) : Prop where
  nonneg : 0 ≤ lo
  lo_le : lo ≤ mt
  le_M : mt ≤ M
  sol : Sol p mt
  pos : 1 ≤ C
  only : ∀ m, lo ≤ m → m ≤ M → Sol p m → (C : Int) ∣ m - mt ∧ mt ≤ m
  each : (C : Int) ≤ M → ∀ m, (C : Int) ∣ m - mt → Sol p m
/-- While one clock more is looked at: mt + j C is at hand. -/
structure Try (lo mt cur : Int) (C j : Nat) (p : List IC) (c : IC) : Prop where
  base : Inv lo mt C p
  cur_eq : cur = mt + j * C
  no : ∀ i : Nat, i < j → ¬ c.f0 ∣ mt + i * C - c.f1
  le_M : cur ≤ M
  sol : Sol p cur
section
variable {lo mt cur : Int} {C j : Nat} {p : List IC} {c : IC}
theorem Try.start (c : IC) (h : Inv lo mt C p) : Try lo mt mt C 0 p c := ⟨h, by simp, fun i hi => absurd hi (Nat.not_lt_zero i), h.le_M, h.sol⟩
theorem Try.ge (h : Try lo mt cur C j p c) : mt ≤ cur := by
  have := Int.mul_nonneg (Int.natCast_nonneg j) (Int.natCast_nonneg C)
  have := h.cur_eq; omega
theorem mul_lt_of (a : Int) (C : Nat) (hC : 1 ≤ C) (h : a < 0) : a * C < 0 := Int.mul_neg_of_neg_of_pos h (by omega)
theorem Inv.steps (h : Inv lo mt C p) {m : Int} (h1 : lo ≤ m) (h2 : m ≤ M) (hs : Sol p m) : ∃ t : Nat, m = mt + t * C := by
  obtain ⟨⟨q, hq⟩, hle⟩ := h.only m h1 h2 hs
  have hC := h.pos
  rw [Int.mul_comm] at hq
  have q0 : 0 ≤ q := by
    rcases Int.lt_or_le q 0 with hneg | h0
    · have := mul_lt_of q C hC hneg; omega
    · exact h0
  obtain ⟨q, rfl⟩ := Int.eq_ofNat_of_zero_le q0
  exact ⟨q, by omega⟩
/-- A meeting of all is one that has not been tried, or the one at hand. -/
theorem Try.later (h : Try lo mt cur C j p c) {m : Int} (h1 : lo ≤ m) (h2 : m ≤ M) (hs : Sol (p ++ [c]) m) : ∃ t : Nat, m = cur + t * C := by
  obtain ⟨s1, s2⟩ := (sol_snoc p c m).1 hs
  obtain ⟨q, e⟩ := h.base.steps h1 h2 s1
  have hj := h.cur_eq
  rcases Nat.lt_or_ge q j with hlt | hge
  · exact absurd (by rw [← e]; exact s2) (h.no q hlt)
  · refine ⟨q - j, ?_⟩
    have : ((q - j : Nat) : Int) = q - j := by omega
    rw [this, Int.sub_mul]; omega
theorem Try.next (h : Try lo mt cur C j p c) (hn : ¬ c.f0 ∣ cur - c.f1) (hle : cur + C ≤ M) : Try lo mt (cur + C) C (j + 1) p c := by
  have hj := h.cur_eq
  have hg := h.ge
  have hC := h.base.pos
  have := h.base.lo_le
  have := h.base.nonneg
  have hCM : (C : Int) ≤ M := by omega
  have e : cur + C = mt + ((j + 1 : Nat) : Int) * C := by
    rw [hj]; have : ((j + 1 : Nat) : Int) = j + 1 := by omega
    rw [this, Int.add_mul]; omega
  refine ⟨h.base, e, fun i hi => ?_, hle, h.base.each hCM _ ⟨((j + 1 : Nat) : Int), by rw [e, Int.mul_comm]; omega⟩⟩
  rcases Nat.lt_or_ge i j with hlt | hge
  · exact h.no i hlt
  · have : i = j := by omega
    subst this; rw [← hj]; exact hn
theorem Try.over (h : Try lo mt cur C j p c) (hn : ¬ c.f0 ∣ cur - c.f1) (hle : M < cur + C) {m : Int} (h1 : lo ≤ m) (h2 : m ≤ M) : ¬ Sol (p ++ [c]) m := by
  intro hs
  obtain ⟨t, e⟩ := h.later h1 h2 hs
  have hC := h.base.pos
  rcases Nat.eq_zero_or_pos t with rfl | ht
  · have : m = cur := by omega
    rw [this] at hs
    exact hn ((sol_snoc p c cur).1 hs).2
  · have : (1 : Int) * C ≤ (t : Int) * C := Int.mul_le_mul_of_nonneg_right (by omega) (by omega)
    omega
/-- No gap of theirs can be closed. -/
theorem Try.apart (h : Inv lo mt C p) (hc : 1 ≤ c.f0) (hg : ¬ ((Nat.gcd C c.f0.toNat : Nat) : Int) ∣ mt - c.f1) {m : Int} (h1 : lo ≤ m) (h2 : m ≤ M) : ¬ Sol (p ++ [c]) m := by
  intro hs
  obtain ⟨s1, s2⟩ := (sol_snoc p c m).1 hs
  obtain ⟨d1, _⟩ := h.only m h1 h2 s1
  have g1 : ((Nat.gcd C c.f0.toNat : Nat) : Int) ∣ (C : Int) := Int.natCast_dvd_natCast.2 (Nat.gcd_dvd_left _ _)
  have g2 : ((Nat.gcd C c.f0.toNat : Nat) : Int) ∣ c.f0 := by
    have : c.f0 = (c.f0.toNat : Int) := by omega
    rw [this]; exact Int.natCast_dvd_natCast.2 (Nat.gcd_dvd_right _ _)
  have a1 := Int.dvd_trans g1 d1
  have a2 := Int.dvd_trans g2 s2
  have := Int.dvd_sub a2 a1
  rw [show m - c.f1 - (m - mt) = mt - c.f1 by omega] at this
  exact hg this
/-- All remainders have been tried. -/
theorem Try.all (h : Try lo mt cur C j p c) (hc : 1 ≤ c.f0) (hn : ¬ c.f0 ∣ cur - c.f1) (hj : c.f0.toNat / Nat.gcd C c.f0.toNat ≤ j + 1) {m : Int} (h1 : lo ≤ m) (h2 : m ≤ M) : ¬ Sol (p ++ [c]) m := by
  intro hs
  obtain ⟨s1, s2⟩ := (sol_snoc p c m).1 hs
  obtain ⟨t, e⟩ := h.base.steps h1 h2 s1
  have hC := h.base.pos
  have e0 : c.f0 = (c.f0.toNat : Int) := by omega
  generalize hP : c.f0.toNat = P at *
  have g0 : 0 < Nat.gcd C P := Nat.gcd_pos_of_pos_left _ (by omega)
  have hR : 0 < P / Nat.gcd C P := Nat.div_pos (Nat.le_of_dvd (by omega) (Nat.gcd_dvd_right _ _)) g0
  have hd : P ∣ P / Nat.gcd C P * C := by
    obtain ⟨x, hx⟩ := Nat.gcd_dvd_left C P
    refine ⟨x, ?_⟩
    have h2 : P / Nat.gcd C P * Nat.gcd C P = P := Nat.div_mul_cancel (Nat.gcd_dvd_right _ _)
    calc P / Nat.gcd C P * C = P / Nat.gcd C P * (Nat.gcd C P * x) := by rw [← hx]
      _ = P / Nat.gcd C P * Nat.gcd C P * x := by rw [Nat.mul_assoc]
      _ = P * x := by rw [h2]
  have hdm := Nat.div_add_mod t (P / Nat.gcd C P)
  have hlt := Nat.mod_lt t hR
  generalize hr : t % (P / Nat.gcd C P) = r at *
  generalize hs2 : t / (P / Nat.gcd C P) = s at *
  have hP2 : (P : Int) ∣ ((P / Nat.gcd C P * s : Nat) : Int) * C := by
    have : ((P / Nat.gcd C P * s : Nat) : Int) * C = (((P / Nat.gcd C P * C) * s : Nat) : Int) := by
      rw [← Int.natCast_mul]; congr 1; rw [Nat.mul_right_comm]
    rw [this]; exact Int.natCast_dvd_natCast.2 (Nat.dvd_mul_right_of_dvd hd s)
  have hr2 : c.f0 ∣ mt + r * C - c.f1 := by
    rw [e0] at s2 ⊢
    have := Int.dvd_sub s2 hP2
    rw [e] at this
    rw [← hdm] at this
    have e3 : (((P / Nat.gcd C P * s + r : Nat) : Int)) * C = ((P / Nat.gcd C P * s : Nat) : Int) * C + r * C := by
      rw [← Int.add_mul]; congr 1
    rw [e3] at this
    rwa [show mt + (((P / Nat.gcd C P * s : Nat) : Int) * C + r * C) - c.f1 - ((P / Nat.gcd C P * s : Nat) : Int) * C = mt + r * C - c.f1 by omega] at this
  rcases Nat.lt_or_ge r j with hlt2 | hge
  · exact h.no r hlt2 hr2
  · have : r = j := by omega
    subst this
    rw [← h.cur_eq] at hr2
    exact hn hr2
theorem Try.diff (h : Try lo mt cur C j p c) (hc : 1 ≤ c.f0) (hy : c.f0 ∣ cur - c.f1) {m : Int} (h1 : lo ≤ m) (h2 : m ≤ M) (hs : Sol (p ++ [c]) m) : ((C / Nat.gcd C c.f0.toNat * c.f0.toNat : Nat) : Int) ∣ m - cur ∧ cur ≤ m := by
  have hC := h.base.pos
  obtain ⟨t, e⟩ := h.later h1 h2 hs
  have s2 := ((sol_snoc p c m).1 hs).2
  have t0 := Int.mul_nonneg (Int.natCast_nonneg t) (Int.natCast_nonneg C)
  refine ⟨(lcm_facts C c.f0.toNat hC (by omega)).2.2.2 _ ⟨t, by rw [Int.mul_comm]; omega⟩ ?_, by omega⟩
  have : ((c.f0.toNat : Nat) : Int) = c.f0 := by omega
  rw [this]
  have := Int.dvd_sub s2 hy
  rwa [show m - c.f1 - (cur - c.f1) = m - cur by omega] at this
theorem Try.small (h : Try lo mt cur C j p c) (hc : 1 ≤ c.f0) (hy : c.f0 ∣ cur - c.f1) (hL : ((C / Nat.gcd C c.f0.toNat * c.f0.toNat : Nat) : Int) ≤ M) : Inv lo cur (C / Nat.gcd C c.f0.toNat * c.f0.toNat) (p ++ [c]) := by
  have hC := h.base.pos
  obtain ⟨l1, l2, l3, _⟩ := lcm_facts C c.f0.toNat hC (by omega)
  have hle := lcm_le C c.f0.toNat hC (by omega)
  refine ⟨h.base.nonneg, Int.le_trans h.base.lo_le h.ge, h.le_M, (sol_snoc p c cur).2 ⟨h.sol, hy⟩, l3, fun m a b s => h.diff hc hy a b s, fun _ m hm => (sol_snoc p c m).2 ⟨?_, ?_⟩⟩
  · refine h.base.each (by omega) m ?_
    have a1 := Int.dvd_trans (Int.natCast_dvd_natCast.2 l1) hm
    have a2 : (C : Int) ∣ cur - mt := ⟨j, by rw [h.cur_eq, Int.mul_comm]; omega⟩
    have := Int.dvd_add a1 a2
    rwa [show m - cur + (cur - mt) = m - mt by omega] at this
  · have a1 := Int.dvd_trans (Int.natCast_dvd_natCast.2 l2) hm
    have : ((c.f0.toNat : Nat) : Int) = c.f0 := by omega
    rw [this] at a1
    have := Int.dvd_add a1 hy
    rwa [show m - cur + (cur - c.f1) = m - c.f1 by omega] at this
theorem small_zero {L : Nat} {x : Int} (h : (L : Int) ∣ x) (h0 : 0 ≤ x) (h1 : x < L) : x = 0 := by
  rcases Int.lt_or_le 0 x with hp | hp
  · have := Int.le_of_dvd hp h; omega
  · omega
theorem Try.big (h : Try lo mt cur C j p c) (hc : 1 ≤ c.f0) (hy : c.f0 ∣ cur - c.f1) (hL : M < ((C / Nat.gcd C c.f0.toNat * c.f0.toNat : Nat) : Int)) {m : Int} (h1 : lo ≤ m) (h2 : m ≤ M) (hs : Sol (p ++ [c]) m) : m = cur := by
  obtain ⟨d, hle⟩ := h.diff hc hy h1 h2 hs
  have := h.base.nonneg
  have := h.base.lo_le
  have := h.ge
  have := small_zero d (by omega) (by omega)
  omega
theorem Try.capped (h : Try lo mt cur C j p c) (hc : 1 ≤ c.f0) (hy : c.f0 ∣ cur - c.f1) (hL : M < ((C / Nat.gcd C c.f0.toNat * c.f0.toNat : Nat) : Int)) : Inv lo cur 1000000000001 (p ++ [c]) := by
  refine ⟨h.base.nonneg, Int.le_trans h.base.lo_le h.ge, h.le_M, (sol_snoc p c cur).2 ⟨h.sol, hy⟩, by omega, fun m a b s => ?_, fun hM => ?_⟩
  · have := h.big hc hy hL a b s
    subst this
    exact ⟨⟨0, by simp⟩, Int.le_refl _⟩
  · exact absurd hM (by unfold M; omega)
end
/-- The answer. -/
def Ans (l : List IC) (lat : Int) (r : Int × Bool) : Prop :=
  (∃ a, r = (a, true) ∧ lat ≤ a ∧ a ≤ M ∧ Sol l a ∧ ∀ m, lat ≤ m → m ≤ M → Sol l m → a ≤ m) ∨ (r = (0, false) ∧ ∀ m, lat ≤ m → m ≤ M → ¬ Sol l m)
theorem Ans.one {l : List IC} {lat : Int} {r s : Int × Bool} (h : Ans l lat r) (k : Ans l lat s) : r = s := by
  rcases h with ⟨a, rfl, a1, a2, a3, a4⟩ | ⟨rfl, h⟩ <;> rcases k with ⟨b, rfl, b1, b2, b3, b4⟩ | ⟨rfl, k⟩
  · have := a4 b b1 b2 b3
    have := b4 a a1 a2 a3
    have : a = b := by omega
    rw [this]
  · exact absurd a3 (k a a1 a2)
  · exact absurd b3 (h b b1 b2)
  · rfl
theorem Ans.none {l p : List IC} {lo lat : Int} (hl : lo ≤ lat) (h : ∀ m, lo ≤ m → m ≤ M → ¬ Sol p m) (hp : ∀ m, Sol l m → Sol p m) : Ans l lat (0, false) :=
  .inr ⟨rfl, fun m h1 h2 hs => h m (by omega) h2 (hp m hs)⟩
theorem Ans.here {l : List IC} {lo mt lat : Int} {C : Nat} (h : Inv lo mt C l) (hl : lo ≤ lat) (hm : lat ≤ mt) : Ans l lat (mt, true) :=
  .inl ⟨mt, rfl, hm, h.le_M, h.sol, fun m h1 h2 hs => (h.only m (by omega) h2 hs).2⟩
theorem Ans.later {l : List IC} {lo mt lat : Int} {C : Nat} (h : Inv lo mt C l) (hl : lo ≤ lat) (hm : mt < lat) : Ans l lat (if mt + (lat - mt + C - 1) / C * C ≤ M then (mt + (lat - mt + C - 1) / C * C, true) else (0, false)) := by
  have hC := h.pos
  have q1 : (lat - mt + C - 1) / C * C ≤ lat - mt + C - 1 := Int.ediv_mul_le _ (by omega)
  have q2 : lat - mt + C - 1 < ((lat - mt + C - 1) / C + 1) * C := Int.lt_ediv_add_one_mul_self _ (by omega)
  have q3 : 1 ≤ (lat - mt + C - 1) / C := by rw [Int.le_ediv_iff_mul_le (by omega)]; omega
  generalize hq : (lat - mt + C - 1) / C = q at *
  have e : (q + 1) * C = q * C + C := by rw [Int.add_mul]; omega
  have least : ∀ m, lat ≤ m → m ≤ M → Sol l m → mt + q * C ≤ m := by
    intro m h1 h2 hs
    obtain ⟨t, ht⟩ := h.steps (by omega) h2 hs
    rcases Int.lt_or_le (t : Int) q with hlt | hge
    · have : ((t : Int) + 1) * C ≤ q * C := Int.mul_le_mul_of_nonneg_right (by omega) (by omega)
      rw [Int.add_mul] at this
      omega
    · have : q * C ≤ (t : Int) * C := Int.mul_le_mul_of_nonneg_right hge (by omega)
      omega
  split
  · rename_i hle
    have hCM : (C : Int) ≤ M := by
      have : 1 * (C : Int) ≤ q * C := Int.mul_le_mul_of_nonneg_right q3 (by omega)
      have := h.nonneg
      have := h.lo_le
      omega
    exact .inl ⟨_, rfl, by omega, hle, h.each hCM _ ⟨q, by rw [Int.mul_comm]; omega⟩, least⟩
  · rename_i hgt
    exact .inr ⟨rfl, fun m h1 h2 hs => hgt (Int.le_trans (least m h1 h2 hs) h2)⟩
end Meet
namespace FirstMeet
open Meet
theorem ok_bd {c : IC} (h : impl_areClocks.ok c = true) : 1 ≤ c.f0 ∧ c.f0 ≤ 100000 ∧ 0 ≤ c.f1 ∧ c.f1 ≤ 100000 := by
  unfold impl_areClocks.ok at h
  have := of_decide_eq_true h
  exact ⟨this.1.1, this.1.2, this.2.1, this.2.2⟩
theorem tdiv_cast (a b : Nat) : Int.tdiv (a : Int) (b : Int) = ((a / b : Nat) : Int) := by
  rw [Int.tdiv_eq_ediv_of_nonneg (by omega)]; exact (Int.natCast_ediv a b).symm
theorem tmod_dvd (a b : Int) : Int.tmod a b = 0 ↔ b ∣ a := ⟨Int.dvd_of_tmod_eq_zero, Int.tmod_eq_zero_of_dvd⟩
/-- The latest offset. -/
def latest : List IC → Int → Int
  | [], x => x
  | c :: l, x => latest l (mx x c.f1)
theorem latest_ge : ∀ (l : List IC) (x : Int), x ≤ latest l x ∧ ∀ c ∈ l, c.f1 ≤ latest l x
  | [], x => ⟨Int.le_refl _, fun c h => by simp at h⟩
  | c :: l, x => by
    obtain ⟨h1, h2⟩ := latest_ge l (mx x c.f1)
    have hm : x ≤ mx x c.f1 ∧ c.f1 ≤ mx x c.f1 := by unfold mx; split <;> omega
    refine ⟨by simp only [latest]; omega, fun d hd => ?_⟩
    simp only [latest]
    rcases List.mem_cons.1 hd with rfl | hd
    · omega
    · exact h2 d hd
theorem latest_le : ∀ (l : List IC) (x : Int), x ≤ 100000 → l.all impl_areClocks.ok = true → latest l x ≤ 100000
  | [], x, h, _ => h
  | c :: l, x, h, ho => by
    simp only [List.all_cons, Bool.and_eq_true] at ho
    have := ok_bd ho.1
    exact latest_le l _ (by unfold mx; split <;> omega) ho.2
/-- The fuel that the rest of the list needs. -/
def need (n : Nat) : Nat := n * 1000000300000 + 300000
theorem need_succ (n : Nat) : need (n + 1) = need n + 1000000300000 := by unfold need; omega
theorem need_ge (n : Nat) : 300000 ≤ need n := by unfold need; omega
theorem need_le (n : Nat) (h : n ≤ 6) : need n ≤ 7000000000000 := by unfold need; omega
attribute [irreducible] need

theorem impl_end (l : List IC) (lo mt lat : Int) (C k : Nat) (x35 : List IC) (n : Int) (h : Inv lo mt C l) (hl : lo ≤ lat) (hl' : lat ≤ 100000) (hC : (C : Int) ≤ 1000000000001) :
    ∃ r, impl_FirstMeeting.l1 (k + 1) lat mt C x35 n n = some r ∧ Ans l lat r := by
  have h0 := h.nonneg
  have h1 := h.lo_le
  have h2 := h.le_M
  have hp := h.pos
  unfold M at h2
  simp only [impl_FirstMeeting.l1]
  rw [if_neg (by omega)]
  by_cases c : mt < lat
  · have q1 : (lat - mt + C - 1) / C * C ≤ lat - mt + C - 1 := Int.ediv_mul_le _ (by omega)
    have q0 : 0 ≤ (lat - mt + C - 1) / C := Int.ediv_nonneg (by omega) (by omega)
    have q2 : (lat - mt + C - 1) / C ≤ lat - mt + C - 1 := Int.ediv_le_self _ (by omega)
    have q3 := Int.mul_nonneg q0 (by omega : 0 ≤ (C : Int))
    rw [if_pos c, if_neg (by omega), w64 (x := lat - mt) (by omega) (by omega), w64 (x := lat - mt + C) (by omega) (by omega), w64 (x := lat - mt + C - 1) (by omega) (by omega), Int.tdiv_eq_ediv_of_nonneg (by omega), w64 (x := (lat - mt + C - 1) / C) (by omega) (by omega), w64 (x := (lat - mt + C - 1) / C * C) (by omega) (by omega), w64 (by omega) (by omega), moment_eq]
    simp only [Option.bind_some]
    have := Ans.later h hl c
    unfold M at this
    by_cases d : mt + (lat - mt + C - 1) / C * C ≤ 1000000000000
    · rw [if_pos d] at this
      rw [decide_eq_true (by omega), if_pos rfl]; exact ⟨_, rfl, this⟩
    · rw [if_neg d] at this
      rw [decide_eq_false (by omega), if_neg (by simp)]; exact ⟨_, rfl, this⟩
  · rw [if_neg c, moment_eq, decide_eq_true (by omega)]
    simp only [Option.bind_some, if_true]
    exact ⟨_, rfl, Ans.here h hl (by omega)⟩

/-- The program's search, one clock more. -/
theorem impl_try (all p q : List IC) (c : IC) (d : List IC) (hall : all = p ++ c :: d) (lo mt lat : Int) (C : Nat) (hlat : lo ≤ lat) (hC : (C : Int) ≤ 1000000000001) (hok : impl_areClocks.ok c = true)
    (i n : Int) (x35 : List IC) (hi : 0 ≤ i) (hi' : i ≤ 100) (F : Nat)
    (rest : ∀ (mt' : Int) (C' k : Nat), Inv lo mt' C' (p ++ [c]) → (C' : Int) ≤ 1000000000001 → F < k → ∃ r, impl_FirstMeeting.l1 k lat mt' C' x35 n (i + 1) = some r ∧ Ans all lat r) :
    ∀ (e k j : Nat) (cur : Int), Try lo mt cur C j p c → M - cur ≤ e → F + 2 + e < k → ∃ r, impl_FirstMeeting.l2 k lat cur C ((Nat.gcd C c.f0.toNat : Nat) : Int) x35 n i c.f0 c.f1 = some r ∧ Ans all lat r := by
  obtain ⟨b0, b1, b2, b3⟩ := ok_bd hok
  have hsub : ∀ m, Sol all m → Sol (p ++ [c]) m := fun m hm => by
    rw [hall, show p ++ c :: d = (p ++ [c]) ++ d by simp] at hm
    exact sol_app hm
  intro e
  induction e with
  | zero =>
    intro k j cur h he hk
    obtain ⟨k, rfl⟩ : ∃ m, k = m + 1 := ⟨k - 1, by omega⟩
    have hp := h.base.pos
    have hM := h.le_M
    have h0 := h.base.nonneg
    have h1 := h.base.lo_le
    have hg := h.ge
    have g0 : 0 < Nat.gcd C c.f0.toNat := Nat.gcd_pos_of_pos_left _ (by omega)
    have m1 : C / Nat.gcd C c.f0.toNat ≤ C := Nat.div_le_self _ _
    have m0 : (0 : Int) ≤ ((C / Nat.gcd C c.f0.toNat : Nat) : Int) := Int.natCast_nonneg _
    have m2 : C / Nat.gcd C c.f0.toNat * c.f0.toNat ≤ 1000000000001 * 100000 := Nat.mul_le_mul (by omega) (by omega)
    have e0 : c.f0 = (c.f0.toNat : Int) := by omega
    unfold M at he hM
    simp only [impl_FirstMeeting.l2]
    rw [if_neg (by omega), w64 (x := cur - c.f1) (by omega) (by omega)]
    by_cases hy : Int.tmod (cur - c.f1) c.f0 = 0
    · rw [if_pos hy, if_neg (by omega), tdiv_cast, w64 (x := ((C / Nat.gcd C c.f0.toNat : Nat) : Int)) (by omega) (by omega)]
      have em : ((C / Nat.gcd C c.f0.toNat : Nat) : Int) * c.f0 = ((C / Nat.gcd C c.f0.toNat * c.f0.toNat : Nat) : Int) := by rw [Int.natCast_mul, ← e0]
      rw [em, w64 (x := ((C / Nat.gcd C c.f0.toNat * c.f0.toNat : Nat) : Int)) (by omega) (by omega), w64 (x := i + 1) (by omega) (by omega)]
      have hyd := (tmod_dvd _ _).1 hy
      split
      · exact rest cur 1000000000001 k (h.capped b0 hyd (by unfold M; omega)) (by omega) (by omega)
      · exact rest cur _ k (h.small b0 hyd (by unfold M; omega)) (by omega) (by omega)
    · rw [if_neg hy, w64 (x := cur + C) (by omega) (by omega), if_pos (by omega)]
      exact ⟨_, rfl, Ans.none hlat (fun m a b => h.over (fun hd => hy ((tmod_dvd _ _).2 hd)) (by unfold M; omega) a b) hsub⟩
  | succ e ih =>
    intro k j cur h he hk
    obtain ⟨k, rfl⟩ : ∃ m, k = m + 1 := ⟨k - 1, by omega⟩
    have hp := h.base.pos
    have hM := h.le_M
    have h0 := h.base.nonneg
    have h1 := h.base.lo_le
    have hg := h.ge
    have g0 : 0 < Nat.gcd C c.f0.toNat := Nat.gcd_pos_of_pos_left _ (by omega)
    have m1 : C / Nat.gcd C c.f0.toNat ≤ C := Nat.div_le_self _ _
    have m0 : (0 : Int) ≤ ((C / Nat.gcd C c.f0.toNat : Nat) : Int) := Int.natCast_nonneg _
    have m2 : C / Nat.gcd C c.f0.toNat * c.f0.toNat ≤ 1000000000001 * 100000 := Nat.mul_le_mul (by omega) (by omega)
    have e0 : c.f0 = (c.f0.toNat : Int) := by omega
    unfold M at he hM
    simp only [impl_FirstMeeting.l2]
    rw [if_neg (by omega), w64 (x := cur - c.f1) (by omega) (by omega)]
    by_cases hy : Int.tmod (cur - c.f1) c.f0 = 0
    · rw [if_pos hy, if_neg (by omega), tdiv_cast, w64 (x := ((C / Nat.gcd C c.f0.toNat : Nat) : Int)) (by omega) (by omega)]
      have em : ((C / Nat.gcd C c.f0.toNat : Nat) : Int) * c.f0 = ((C / Nat.gcd C c.f0.toNat * c.f0.toNat : Nat) : Int) := by rw [Int.natCast_mul, ← e0]
      rw [em, w64 (x := ((C / Nat.gcd C c.f0.toNat * c.f0.toNat : Nat) : Int)) (by omega) (by omega), w64 (x := i + 1) (by omega) (by omega)]
      have hyd := (tmod_dvd _ _).1 hy
      split
      · exact rest cur 1000000000001 k (h.capped b0 hyd (by unfold M; omega)) (by omega) (by omega)
      · exact rest cur _ k (h.small b0 hyd (by unfold M; omega)) (by omega) (by omega)
    · rw [if_neg hy, w64 (x := cur + C) (by omega) (by omega)]
      split
      · exact ⟨_, rfl, Ans.none hlat (fun m a b => h.over (fun hd => hy ((tmod_dvd _ _).2 hd)) (by unfold M; omega) a b) hsub⟩
      · exact ih k (j + 1) (cur + C) (h.next (fun hd => hy ((tmod_dvd _ _).2 hd)) (by unfold M; omega)) (by unfold M; omega) (by omega)

theorem impl_loop (all : List IC) (lat lo : Int) (hlat : lo ≤ lat) (hlat' : lat ≤ 100000) : ∀ (d p x35 pre : List IC) (mt : Int) (C k : Nat) (i : Int), all = p ++ d → x35 = pre ++ d → i = pre.length → x35.length ≤ 6 → d.all impl_areClocks.ok = true → Inv lo mt C p → (C : Int) ≤ 1000000000001 → need d.length < k →
    ∃ r, impl_FirstMeeting.l1 k lat mt C x35 ((x35.length : Nat) : Int) i = some r ∧ Ans all lat r
  | [], p, x35, pre, mt, C, k, i, ha, hx, hi, hl, _, h, hC, hk => by
    obtain ⟨k, rfl⟩ : ∃ m, k = m + 1 := ⟨k - 1, by omega⟩
    have e : i = ((x35.length : Nat) : Int) := by rw [hx, hi]; simp
    rw [e]
    have ep : all = p := by rw [ha]; simp
    rw [ep]
    exact impl_end p lo mt lat C k x35 _ h hlat hlat' hC
  | c :: d, p, x35, pre, mt, C, k, i, ha, hx, hi, hl, ho, h, hC, hk => by
    obtain ⟨k, rfl⟩ : ∃ m, k = m + 1 := ⟨k - 1, by omega⟩
    have hn := need_ge d.length
    rw [List.length_cons, need_succ] at hk
    simp only [List.all_cons, Bool.and_eq_true] at ho
    obtain ⟨b0, b1, b2, b3⟩ := ok_bd ho.1
    have hlen : x35.length = pre.length + (d.length + 1) := by rw [hx]; simp
    have h0 := h.nonneg
    have h1 := h.lo_le
    have h2 := h.le_M
    unfold M at h2
    have hp := h.pos
    have hP : c.f0 = (c.f0.toNat : Int) := by omega
    have g0 : 0 < Nat.gcd C c.f0.toNat := Nat.gcd_pos_of_pos_left _ (by omega)
    simp only [impl_FirstMeeting.l1]
    have hr : rd_T31 x35 i = c := by rw [hx]; exact rdi pre c d i hi
    rw [if_pos (by omega), if_pos (by omega), if_pos (by omega), hr]
    unfold impl_gcd.f
    have hgcd : impl_gcd.l0 k (C : Int) c.f0 = some ((Nat.gcd C c.f0.toNat : Nat) : Int) := by
      rw [hP]; simp only [Int.toNat_natCast]; exact impl_gcd_loop _ _ k (by omega) (by omega) (by omega)
    rw [hgcd]; simp only [Option.bind_some]
    rw [if_neg (by omega), w64 (x := mt - c.f1) (by omega) (by omega)]
    by_cases hg : Int.tmod (mt - c.f1) ((Nat.gcd C c.f0.toNat : Nat) : Int) = 0
    · rw [if_pos hg]
      refine impl_try all p [] c d ha lo mt lat C hlat hC ho.1 i _ x35 (by omega) (by omega) (need d.length) (fun mt' C' k' hI hC' hk' => ?_) 1000000000000 k 0 mt (Try.start c h) (by unfold M; omega) (by omega)
      exact impl_loop all lat lo hlat hlat' d (p ++ [c]) x35 (pre ++ [c]) mt' C' k' (i + 1) (by rw [ha]; simp) (by rw [hx]; simp) (by simp [hi]) hl ho.2 hI hC' hk'
    · rw [if_neg hg]
      refine ⟨_, rfl, Ans.none hlat (fun m a b => Try.apart h b0 (fun hd => hg ((tmod_dvd _ _).2 hd)) a b) (fun m hm => ?_)⟩
      rw [ha, show p ++ c :: d = (p ++ [c]) ++ d by simp] at hm
      exact sol_app hm
theorem impl_latest : ∀ (l p : List IC) (k : Nat) (x : Int) (i : Int) (x0 : List IC), i = p.length → (p ++ l).length ≤ 6 → x0.length = (p ++ l).length → 1 ≤ x0.length → l.length < k → ∃ k', k ≤ k' + l.length + 1 ∧ impl_FirstMeeting.l0 k x0 x (p ++ l) (((p ++ l).length : Nat) : Int) i = impl_FirstMeeting.l1 k' (latest l x) ((rd_T31 x0 0).f1) ((rd_T31 x0 0).f0) (x0.drop 1) (((x0.drop 1).length : Nat) : Int) 0
  | [], p, k, x, i, x0, hi, hl, h0, h1, hk => by
    obtain ⟨k, rfl⟩ : ∃ m, k = m + 1 := ⟨k - 1, by omega⟩
    refine ⟨k, by simp, ?_⟩
    simp only [impl_FirstMeeting.l0]
    rw [if_neg (by simp [hi]), if_pos (by omega), if_pos (by omega)]; rfl
  | c :: l, p, k, x, i, x0, hi, hl, h0, h1, hk2 => by
    obtain ⟨k, rfl⟩ : ∃ m, k = m + 1 := ⟨k - 1, by omega⟩
    simp only [List.length_append, List.length_cons] at hl h0 hk2
    simp only [impl_FirstMeeting.l0]
    rw [if_pos (by simp [hi]; omega), if_pos (by omega), if_pos (by simp [hi]; omega), rdi p c l i hi, w64 (x := i + 1) (by omega) (by omega)]
    have h := impl_latest l (p ++ [c]) k (mx x c.f1) (i + 1) x0 (by simp [hi]) (by simp; omega) (by simp [h0]) h1 (by omega)
    simp only [List.append_assoc, List.singleton_append] at h
    obtain ⟨k', hk', e⟩ := h
    exact ⟨k', by rw [List.length_cons]; omega, e⟩

theorem lcm_alt (C P : Nat) : C * (P / Nat.gcd C P) = C / Nat.gcd C P * P := by
  rw [← Nat.mul_div_assoc _ (Nat.gcd_dvd_right C P), Nat.div_mul_right_comm (Nat.gcd_dvd_left C P)]
theorem try_ans {all p : List IC} {c : IC} (hall : all = p ++ [c]) {lo mt cur : Int} {C j : Nat} (h : Try lo mt cur C j p c) (hy : c.f0 ∣ cur - c.f1) : Ans all lo (cur, true) := by
  refine .inl ⟨cur, rfl, Int.le_trans h.base.lo_le h.ge, h.le_M, by rw [hall]; exact (sol_snoc p c cur).2 ⟨h.sol, hy⟩, fun m a b s => ?_⟩
  rw [hall] at s
  obtain ⟨t, e⟩ := h.later a b s
  have := Int.mul_nonneg (Int.natCast_nonneg t) (Int.natCast_nonneg C)
  omega
instance solDec (l : List IC) (m : Int) : Decidable (Sol l m) := by unfold Sol; exact inferInstance
/-- The last look: with such a step all must meet at the moment itself. -/
theorem spec_rest : ∀ (d p : List IC) (k : Nat) (cur i : Int), i = p.length → (p ++ d).length ≤ 6 → d.all impl_areClocks.ok = true → d.length < k → 0 ≤ cur → cur ≤ M →
    spec_FirstMeeting.l3 k (p ++ d) cur i = some (if Sol d cur then (cur, true) else (0, false)) := by
  intro d
  induction d with
  | nil =>
    intro p k cur i hi hl _ hk h0 h1
    obtain ⟨k, rfl⟩ : ∃ m, k = m + 1 := ⟨k - 1, by omega⟩
    simp only [spec_FirstMeeting.l3]
    have hs : Sol [] cur := fun c hc => by simp at hc
    rw [if_neg (by simp [hi]), if_pos hs]
  | cons c d ih =>
    intro p k cur i hi hl ho hk h0 h1
    obtain ⟨k, rfl⟩ : ∃ m, k = m + 1 := ⟨k - 1, by omega⟩
    simp only [List.length_append, List.length_cons] at hl hk
    simp only [List.all_cons, Bool.and_eq_true] at ho
    obtain ⟨b0, b1, b2, b3⟩ := ok_bd ho.1
    unfold M at h1
    simp only [spec_FirstMeeting.l3]
    rw [if_pos (by simp [hi]; omega), if_pos (by omega), rdi p c d i hi, if_neg (by omega), w64 (x := cur - c.f1) (by omega) (by omega), w64 (x := i + 1) (by omega) (by omega)]
    by_cases hy : Int.tmod (cur - c.f1) c.f0 = 0
    · rw [if_pos hy]
      have h := ih (p ++ [c]) k cur (i + 1) (by simp [hi]) (by simp; omega) ho.2 (by omega) h0 (by unfold M; omega)
      simp only [List.append_assoc, List.singleton_append] at h
      rw [h]
      have hyd := (tmod_dvd _ _).1 hy
      by_cases s : Sol d cur
      · have hs : Sol (c :: d) cur := fun x hx => by
          rcases List.mem_cons.1 hx with rfl | hx
          · exact hyd
          · exact s x hx
        rw [if_pos s, if_pos hs]
      · have hs : ¬ Sol (c :: d) cur := fun h2 => s (fun x hx => h2 x (by simp [hx]))
        rw [if_neg s, if_neg hs]
    · have hs : ¬ Sol (c :: d) cur := fun h2 => hy ((tmod_dvd _ _).2 (h2 c (by simp)))
      rw [if_neg hy, if_neg hs]
theorem spec_try (all p : List IC) (c : IC) (d : List IC) (hall : all = p ++ c :: d) (hlen : all.length ≤ 6) (mt lat : Int) (C : Nat) (hC : (C : Int) ≤ 1000000000000) (hok : impl_areClocks.ok c = true) (hoks : d.all impl_areClocks.ok = true)
    (i : Int) (hi : i = p.length) (F : Nat)
    (rest : ∀ (mt' : Int) (C' k : Nat), d ≠ [] → Inv lat mt' C' (p ++ [c]) → (C' : Int) ≤ 1000000000000 → F < k → ∃ r, spec_FirstMeeting.l1 k all mt' C' (i + 1) = some r ∧ Ans all lat r) :
    ∀ (e k j : Nat) (cur : Int), Try lat mt cur C j p c → c.f0.toNat / Nat.gcd C c.f0.toNat ≤ j + e → j < c.f0.toNat / Nat.gcd C c.f0.toNat → F + 20 + e < k → ∃ r, spec_FirstMeeting.l2 k all cur C i ((c.f0.toNat / Nat.gcd C c.f0.toNat : Nat) : Int) (j : Int) c.f0 c.f1 = some r ∧ Ans all lat r := by
  obtain ⟨b0, b1, b2, b3⟩ := ok_bd hok
  have hsub : ∀ m, Sol all m → Sol (p ++ [c]) m := fun m hm => by
    rw [hall, show p ++ c :: d = (p ++ [c]) ++ d by simp] at hm
    exact sol_app hm
  have hl2 : all.length = p.length + (d.length + 1) := by rw [hall]; simp
  intro e
  induction e with
  | zero => intro k j cur h h1 h2; omega
  | succ e ih =>
    intro k j cur h he hj hk
    obtain ⟨k, rfl⟩ : ∃ m, k = m + 1 := ⟨k - 1, by omega⟩
    have hp := h.base.pos
    have hM := h.le_M
    have h0 := h.base.nonneg
    have h1 := h.base.lo_le
    have hg := h.ge
    have g0 : 0 < Nat.gcd C c.f0.toNat := Nat.gcd_pos_of_pos_left _ (by omega)
    have r1 : c.f0.toNat / Nat.gcd C c.f0.toNat ≤ c.f0.toNat := Nat.div_le_self _ _
    have m2 : C * (c.f0.toNat / Nat.gcd C c.f0.toNat) ≤ 1000000000000 * 100000 := Nat.mul_le_mul (by omega) (by omega)
    have e0 : c.f0 = (c.f0.toNat : Int) := by omega
    have hR := lcm_alt C c.f0.toNat
    have hy2 := h.small b0
    have hbig := fun a b => @Try.big lat mt cur C j p c h b0 a b
    have hallt := fun a b => @Try.all lat mt cur C j p c h b0 a b
    rw [← hR] at hy2 hbig
    unfold M at hM hy2 hbig
    generalize hRR : c.f0.toNat / Nat.gcd C c.f0.toNat = R at *
    simp only [spec_FirstMeeting.l2]
    rw [if_neg (by omega), w64 (x := cur - c.f1) (by omega) (by omega)]
    by_cases hy : Int.tmod (cur - c.f1) c.f0 = 0
    · have hyd := (tmod_dvd _ _).1 hy
      rw [if_pos hy, w64 (x := i + 1) (by omega) (by omega), ← Int.natCast_mul, w64 (x := ((C * R : Nat) : Int)) (by omega) (by omega)]
      by_cases hend : i + 1 < (all.length : Int)
      · rw [if_pos hend]
        have hd : d ≠ [] := fun hd => by subst hd; simp at hl2; omega
        split
        · rename_i hbg
          have ea : all = (p ++ [c]) ++ d := by rw [hall]; simp
          have h3 := spec_rest d (p ++ [c]) k cur (i + 1) (by simp [hi]) (by rw [← ea]; exact hlen) hoks (by omega) (by omega) (by unfold M; omega)
          rw [← ea] at h3
          rw [h3]
          refine ⟨_, rfl, ?_⟩
          have only := fun m => hbig hyd (by omega) (m := m)
          by_cases s : Sol d cur
          · rw [if_pos s]
            refine .inl ⟨cur, rfl, by omega, by unfold M; omega, ?_, fun m a b hs => by rw [only m a b (hsub m hs)]; omega⟩
            intro x hx
            rw [ea] at hx
            rcases List.mem_append.1 hx with hx | hx
            · exact ((sol_snoc p c cur).2 ⟨h.sol, hyd⟩) x hx
            · exact s x hx
          · rw [if_neg s]
            refine .inr ⟨rfl, fun m a b hs => s ?_⟩
            have := only m a b (hsub m hs)
            subst this
            exact fun x hx => hs x (by rw [ea]; simp [hx])
        · exact rest cur _ k hd (hy2 hyd (by omega)) (by omega) (by omega)
      · rw [if_neg hend]
        have hd : d = [] := by
          cases d with
          | nil => rfl
          | cons x y => simp at hl2; omega
        subst hd
        obtain ⟨k, rfl⟩ : ∃ m, k = m + 1 := ⟨k - 1, by omega⟩
        simp only [spec_FirstMeeting.l1]
        rw [if_neg (by simp at hl2; omega)]
        exact ⟨_, rfl, try_ans hall h hyd⟩
    · have hyn : ¬ c.f0 ∣ cur - c.f1 := fun hd => hy ((tmod_dvd _ _).2 hd)
      rw [if_neg hy, w64 (x := (j : Int) + 1) (by omega) (by omega)]
      split
      · exact ⟨_, rfl, Ans.none (Int.le_refl _) (fun m a b => hallt hyn (by omega) a b) hsub⟩
      · rw [w64 (x := cur + C) (by omega) (by omega)]
        split
        · exact ⟨_, rfl, Ans.none (Int.le_refl _) (fun m a b => h.over hyn (by unfold M; omega) a b) hsub⟩
        · have := ih k (j + 1) (cur + C) (h.next hyn (by unfold M; omega)) (by omega) (by omega) (by omega)
          simpa using this
theorem spec_loop (all : List IC) (hlen : all.length ≤ 6) (lat : Int) : ∀ (d p : List IC) (mt : Int) (C k : Nat) (i : Int), all = p ++ d → i = p.length → d.all impl_areClocks.ok = true → Inv lat mt C p → (C : Int) ≤ 1000000000000 → need d.length < k →
    ∃ r, spec_FirstMeeting.l1 k all mt C i = some r ∧ Ans all lat r
  | [], p, mt, C, k, i, ha, hi, _, h, hC, hk => by
    obtain ⟨k, rfl⟩ : ∃ m, k = m + 1 := ⟨k - 1, by omega⟩
    have ep : all = p := by rw [ha]; simp
    subst ep
    simp only [spec_FirstMeeting.l1]
    rw [if_neg (by omega)]
    exact ⟨_, rfl, Ans.here h (Int.le_refl _) h.lo_le⟩
  | c :: d, p, mt, C, k, i, ha, hi, ho, h, hC, hk => by
    obtain ⟨k, rfl⟩ : ∃ m, k = m + 1 := ⟨k - 1, by omega⟩
    have hn := need_ge d.length
    rw [List.length_cons, need_succ] at hk
    simp only [List.all_cons, Bool.and_eq_true] at ho
    obtain ⟨b0, b1, b2, b3⟩ := ok_bd ho.1
    have hl2 : all.length = p.length + (d.length + 1) := by rw [ha]; simp
    have hp := h.pos
    have hP : c.f0 = (c.f0.toNat : Int) := by omega
    have g0 : 0 < Nat.gcd C c.f0.toNat := Nat.gcd_pos_of_pos_left _ (by omega)
    have g1 : Nat.gcd C c.f0.toNat ≤ c.f0.toNat := Nat.le_of_dvd (by omega) (Nat.gcd_dvd_right _ _)
    have r0 : 0 < c.f0.toNat / Nat.gcd C c.f0.toNat := Nat.div_pos g1 g0
    have r1 : c.f0.toNat / Nat.gcd C c.f0.toNat ≤ c.f0.toNat := Nat.div_le_self _ _
    simp only [spec_FirstMeeting.l1]
    have hr : rd_T31 all i = c := by rw [ha]; exact rdi p c d i hi
    rw [if_pos (by omega), if_pos (by omega), hr]
    unfold spec_l01Gcd.f
    have hgcd : spec_l01Gcd.l0 k (C : Int) c.f0 = some ((Nat.gcd C c.f0.toNat : Nat) : Int) := by
      rw [hP]; simp only [Int.toNat_natCast]; exact spec_gcd_loop _ _ k (by omega)
    rw [hgcd]; simp only [Option.bind_some]
    have hq : Int.tdiv c.f0 ((Nat.gcd C c.f0.toNat : Nat) : Int) = ((c.f0.toNat / Nat.gcd C c.f0.toNat : Nat) : Int) := by
      conv => lhs; rw [hP]
      simp only [Int.toNat_natCast]; exact tdiv_cast _ _
    rw [if_neg (by omega), hq, w64 (by omega) (by omega)]
    have := spec_try all p c d ha hlen mt lat C hC ho.1 ho.2 i hi (need d.length) (fun mt' C' k' hd hI hC' hk' => spec_loop all hlen lat d (p ++ [c]) mt' C' k' (i + 1) (by rw [ha]; simp) (by simp [hi]) ho.2 hI hC' hk') (c.f0.toNat / Nat.gcd C c.f0.toNat) k 0 mt (Try.start c h) (by omega) r0 (by omega)
    simpa using this
theorem spec_latest : ∀ (l p : List IC) (k : Nat) (x : Int) (i : Int), i = p.length → (p ++ l).length ≤ 6 → l.length < k → ∃ k', k ≤ k' + l.length + 1 ∧ spec_FirstMeeting.l0 k (p ++ l) x i = spec_FirstMeeting.l1 k' (p ++ l) (latest l x) 1 0
  | [], p, k, x, i, hi, hl, hk => by
    obtain ⟨k, rfl⟩ : ∃ m, k = m + 1 := ⟨k - 1, by omega⟩
    refine ⟨k, by simp, ?_⟩
    simp only [spec_FirstMeeting.l0]
    rw [if_neg (by simp [hi])]; rfl
  | c :: l, p, k, x, i, hi, hl, hk => by
    obtain ⟨k, rfl⟩ : ∃ m, k = m + 1 := ⟨k - 1, by omega⟩
    simp only [List.length_append, List.length_cons] at hl hk
    simp only [spec_FirstMeeting.l0]
    have hmx : spec_l00Max.f x c.f1 = some (mx x c.f1) := by
      unfold spec_l00Max.f mx
      by_cases h : x > c.f1
      · rw [if_pos h, if_neg (by omega)]
      · rw [if_neg h]; by_cases h2 : x < c.f1
        · rw [if_pos h2]
        · rw [if_neg h2]; congr 1; omega
    rw [if_pos (by simp [hi]; omega), if_pos (by omega), rdi p c l i hi, w64 (x := i + 1) (by omega) (by omega), hmx]
    simp only [Option.bind_some]
    have h := spec_latest l (p ++ [c]) k (mx x c.f1) (i + 1) (by simp [hi]) (by simp; omega) (by omega)
    simp only [List.append_assoc, List.singleton_append] at h
    obtain ⟨k', hk', e⟩ := h
    exact ⟨k', by rw [List.length_cons]; omega, e⟩
/-- Both find the answer. -/
theorem both (l : List IC) (hl : l.length ≤ 2000000) (k : Nat) (hk : 20000000000000 ≤ k) : ∃ r, spec_FirstMeeting.f k l = some r ∧ impl_FirstMeeting.f k l = some r := by
  unfold spec_FirstMeeting.f impl_FirstMeeting.f
  rw [all_eq l hl k (by omega), are_eq]; simp only [Option.bind_some]
  cases h : L.all l with
  | false => exact ⟨(0, false), by simp, by simp⟩
  | true =>
    simp only [if_true]
    have h' := h
    unfold L.all at h'
    simp only [Bool.and_eq_true, decide_eq_true_eq] at h'
    obtain ⟨⟨n1, n2⟩, ho⟩ := h'
    cases l with
    | nil => simp at n1
    | cons c d =>
    have hlen : (c :: d).length ≤ 6 := by omega
    obtain ⟨k1, hk1, e1⟩ := spec_latest (c :: d) [] k 0 0 rfl hlen (by omega)
    obtain ⟨k2, hk2, e2⟩ := impl_latest (c :: d) [] k 0 0 (c :: d) rfl hlen rfl (by simp) (by omega)
    rw [List.nil_append] at e1 e2
    have l0 := latest_ge (c :: d) 0
    have l1 := latest_le (c :: d) 0 (by omega) ho
    have hc := l0.2 c (by simp)
    have hoc : impl_areClocks.ok c = true ∧ d.all impl_areClocks.ok = true := by simpa using ho
    obtain ⟨b0, b1, b2, b3⟩ := ok_bd hoc.1
    have nl := need_le (c :: d).length hlen
    have nd := need_le d.length (by simp at hlen; omega)
    generalize hL : latest (c :: d) 0 = lat at *
    have inv0 : Inv lat lat 1 [] := ⟨l0.1, Int.le_refl _, by unfold M; omega, fun x hx => by simp at hx, by omega, fun m a _ _ => ⟨⟨m - lat, by omega⟩, a⟩, fun _ m _ x hx => by simp at hx⟩
    obtain ⟨r1, s1, a1⟩ := spec_loop (c :: d) hlen lat (c :: d) [] lat 1 k1 0 rfl rfl ho inv0 (by omega) (by omega)
    have inv1 : Inv c.f1 c.f1 c.f0.toNat [c] := by
      have e0 : ((c.f0.toNat : Nat) : Int) = c.f0 := by omega
      refine ⟨b2, Int.le_refl _, by unfold M; omega, fun x hx => ?_, by omega, fun m a _ hs => ⟨?_, a⟩, fun _ m hm x hx => ?_⟩
      · rw [List.mem_singleton.1 hx]; exact ⟨0, by omega⟩
      · rw [e0]; exact hs c (by simp)
      · rw [List.mem_singleton.1 hx]; rw [e0] at hm; exact hm
    obtain ⟨r2, s2, a2⟩ := impl_loop (c :: d) lat c.f1 hc l1 d [c] d [] c.f1 c.f0.toNat k2 0 rfl rfl rfl (by simp at hlen; omega) hoc.2 inv1 (by omega) (by omega)
    have er : r1 = r2 := a1.one a2
    subst er
    refine ⟨r1, ?_, ?_⟩
    · rw [e1]; exact s1
    · rw [e2]
      have e0 : ((c.f0.toNat : Nat) : Int) = c.f0 := by omega
      rw [e0] at s2
      exact s2
end FirstMeet
end Go.Proofs.Ytfoedfigjcmjbaa.L
