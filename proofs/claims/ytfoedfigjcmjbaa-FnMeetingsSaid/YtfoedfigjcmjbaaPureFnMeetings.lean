import Derived.Test.YtfoedfigjcmjbaaA17
import Derived.Test.YtfoedfigjcmjbaaA18
import Derived.Test.YtfoedfigjcmjbaaA20
import Derived.Test.YtfoedfigjcmjbaaA45
import Derived.Test.YtfoedfigjcmjbaaA13
import Derived.Test.YtfoedfigjcmjbaaA33
import Derived.Test.YtfoedfigjcmjbaaA35
import Derived.Test.YtfoedfigjcmjbaaA53
import Derived.Test.YtfoedfigjcmjbaaA55
import Derived.Test.YtfoedfigjcmjbaaA57
import Derived.Test.YtfoedfigjcmjbaaA59
import Derived.Test.YtfoedfigjcmjbaaA36
import Derived.Test.YtfoedfigjcmjbaaA22
import Derived.Test.YtfoedfigjcmjbaaA31
import Derived.Test.YtfoedfigjcmjbaaA52
import Derived.Test.YtfoedfigjcmjbaaA54
import Derived.Test.YtfoedfigjcmjbaaA9
import Derived.Test.YtfoedfigjcmjbaaA37
/- Plain lemmas on the printed functions of the seat of the clocks: edges, moments, drawn clocks. No conditions. -/
namespace Go.Proofs.Ytfoedfigjcmjbaa.L
set_option linter.unusedVariables false
set_option linter.unusedSimpArgs false
open Go.RowKit Go.Proofs.Ytfoedfigjcmjbaa.A Go.Proofs.YtfoedfigjcmjbaaW.PrintWords Go.Proofs.YtfoedfigjcmjbaaW.PrintLast Go.Proofs.YtfoedfigjcmjbaaW.PrintMore

theorem w64 {x : Int} (h1 : -9223372036854775808 ≤ x) (h2 : x ≤ 9223372036854775807) : wrap64 x = x := by unfold wrap64; omega
theorem wu64 (n : Int) : IntKind.u64.wrap n = n % 18446744073709551616 := by simp [IntKind.wrap, IntKind.bits, IntKind.signed]
theorem and255 (x : Int) (h0 : 0 ≤ x) (h1 : x < 16777216) : bits .and .u64 x 255 = x % 256 :=
  bits_mask .u64 24 (by decide) (fun n a b => by rw [wu64]; simp at b; omega) 8 (by decide) x h0 (by simpa using h1)
theorem tmod_pos (x n : Int) (h0 : 0 ≤ x) : Int.tmod x n = x % n := Int.tmod_eq_emod_of_nonneg h0

theorem within_eq (a b c : Int) : impl_within.f a b c = some (decide (b ≤ a ∧ a ≤ c)) := by
  unfold impl_within.f
  by_cases h : a ≥ b
  · rw [if_pos h]; have h' : b ≤ a := h; simp [h']
  · rw [if_neg h]; have h' : ¬ b ≤ a := h; simp [h']

def U8 (l : List Int) : Prop := ∀ x ∈ l, (Lit.int .u8 x).wf = true
theorem u8_rd {l : List Int} (h : U8 l) (i : Int) : 0 ≤ rd l i ∧ rd l i ≤ 255 := by
  unfold rd
  rw [List.getD_eq_getElem?_getD]
  rcases hq : l[i.toNat]? with _ | x
  · simp
  · have hm := h x (List.mem_of_getElem? hq)
    simp only [Lit.wf, Bool.and_eq_true, decide_eq_true_eq] at hm
    have e1 : IntKind.u8.min = 0 := rfl
    have e2 : IntKind.u8.max = 255 := rfl
    simp only [Option.getD_some]; omega

theorem r8At_eq {l : List Int} (h : U8 l) (k n : Int) (hk : 0 ≤ k) (hn : 1 ≤ n) : ∃ x, laws_r8At.f l k n = some x ∧ 0 ≤ x ∧ x < n := by
  unfold laws_r8At.f
  by_cases h1 : n ≤ 1
  · exact ⟨0, by rw [if_pos h1], by omega, by omega⟩
  · rw [if_neg h1]
    by_cases h2 : k ≥ (l.length : Int)
    · exact ⟨0, by rw [if_pos h2], by omega, by omega⟩
    · have hr := u8_rd h k
      rw [if_neg h2, if_pos hk, if_pos (by omega), if_neg (by omega), w64 (by omega) (by omega), tmod_pos _ _ hr.1]
      exact ⟨_, rfl, Int.emod_nonneg _ (by omega), Int.emod_lt_of_pos _ (by omega)⟩

theorem next_eq {l : List Int} (h : U8 l) (at_ seed : Int) (h0 : 0 ≤ at_) (h1 : at_ ≤ 1000) : ∃ v s, spec_l00Src_next.f l at_ seed = some (v, at_ + 1, s) ∧ 0 ≤ v ∧ v ≤ 255 := by
  unfold spec_l00Src_next.f
  have hr := u8_rd h at_
  have hw : wrap64 (at_ + 1) = at_ + 1 := w64 (by omega) (by omega)
  have hb : ∀ e : Int, 0 ≤ wrap64 (bits .and .u64 ((IntKind.u64.wrap e) / 1099511627776) 255) ∧ wrap64 (bits .and .u64 ((IntKind.u64.wrap e) / 1099511627776) 255) ≤ 255 := by
    intro e
    rw [wu64, and255 _ (by omega) (by omega), w64 (by omega) (by omega)]; omega
  rw [hw]
  by_cases c1 : at_ < (l.length : Int)
  · rw [if_pos c1, if_pos h0]
    split
    · exact ⟨_, _, rfl, by rw [w64 (by omega) (by omega)]; omega, by rw [w64 (by omega) (by omega)]; omega⟩
    · exact ⟨_, _, rfl, (hb _).1, (hb _).2⟩
  · rw [if_neg c1]
    split
    · exact ⟨_, _, rfl, by omega, by omega⟩
    · exact ⟨_, _, rfl, (hb _).1, (hb _).2⟩
theorem pick_eq {l : List Int} (h : U8 l) (at_ seed n : Int) (h0 : 0 ≤ at_) (h1 : at_ ≤ 1000) (hn : 2 ≤ n) (hn' : n ≤ 200) : ∃ v s, spec_l00Src_pick.f l at_ seed n = some (v, at_ + 1, s) ∧ 0 ≤ v ∧ v < n := by
  obtain ⟨v, s, hv, v0, v1⟩ := next_eq h at_ seed h0 h1
  unfold spec_l00Src_pick.f
  rw [if_neg (by omega), hv]; simp only [Option.bind_some]
  rw [if_neg (by omega), if_neg (by omega), tmod_pos _ _ v0]
  exact ⟨_, _, rfl, Int.emod_nonneg _ (by omega), Int.emod_lt_of_pos _ (by omega)⟩
theorem clock_eq {l : List Int} (h : U8 l) : ∃ p o, spec_R8Clock.f l = some (p, o) ∧ 1 ≤ p ∧ p ≤ 20 ∧ 0 ≤ o ∧ o ≤ 29 := by
  obtain ⟨x, s, hx, x0, x1⟩ := pick_eq h 0 0 20 (by omega) (by omega) (by omega) (by omega)
  obtain ⟨y, s', hy, y0, y1⟩ := pick_eq h (0 + 1) s 30 (by omega) (by omega) (by omega) (by omega)
  unfold spec_R8Clock.f spec_l00From.f
  simp only [Option.bind_some]
  rw [hx]; simp only [Option.bind_some]
  rw [hy]; simp only [Option.bind_some]
  rw [w64 (by omega) (by omega)]
  exact ⟨_, _, rfl, by omega, by omega, by omega, by omega⟩

theorem valid_eq (p o : Int) : impl_ValidClock.f p o = some (decide ((1 ≤ p ∧ p ≤ 100000) ∧ (0 ≤ o ∧ o ≤ 100000))) := by
  unfold impl_ValidClock.f
  rw [within_eq, within_eq]; simp only [Option.bind_some]
  by_cases h : 1 ≤ p ∧ p ≤ 100000 <;> by_cases k : 0 ≤ o ∧ o ≤ 100000 <;> simp [h, k]
theorem moment_eq (m : Int) : impl_isMoment.f m = some (decide (0 ≤ m ∧ m ≤ 1000000000000)) := by
  unfold impl_isMoment.f; rw [within_eq]; rfl
theorem mul_bd {a b A B : Int} (a0 : 0 ≤ a) (a1 : a ≤ A) (b0 : 0 ≤ b) (b1 : b ≤ B) : 0 ≤ a * b ∧ a * b ≤ A * B :=
  ⟨Int.mul_nonneg a0 b0, Int.mul_le_mul a1 b1 b0 (by omega)⟩
theorem edge_eq (p o i : Int) (hp : 1 ≤ p) (hp' : p ≤ 100000) (ho : 0 ≤ o) (ho' : o ≤ 100000) (hi : 0 ≤ i) (hi' : i ≤ 1000000000000) (hm : o + i * p ≤ 1000000000000) : impl_EdgeAt.f p o i = some (o + i * p, true) := by
  have hb := mul_bd hi hi' (by omega : 0 ≤ p) hp'
  unfold impl_EdgeAt.f
  rw [valid_eq, moment_eq, w64 (x := i * p) (by omega) (by omega), w64 (by omega) (by omega), moment_eq]
  simp only [Option.bind_some]
  rw [if_pos (decide_eq_true ⟨⟨hp, hp'⟩, ho, ho'⟩), if_pos (decide_eq_true ⟨hi, hi'⟩), if_pos (decide_eq_true ⟨by omega, hm⟩)]

/-- How many edges there are before a moment. -/
def eb (p o m : Int) : Int := if m ≤ o then 0 else (m - o + p - 1) / p
theorem eb_nonneg (p o m : Int) (hp : 1 ≤ p) : 0 ≤ eb p o m := by
  unfold eb; split
  · omega
  · exact Int.ediv_nonneg (by omega) (by omega)
theorem eb_lt (p o m : Int) (hp : 1 ≤ p) (k : Int) (hk : 0 ≤ k) : k < eb p o m ↔ o + k * p < m := by
  have hkp := Int.mul_nonneg hk (by omega : (0:Int) ≤ p)
  unfold eb; split
  · rename_i h; constructor
    · intro h'; omega
    · intro h'; omega
  · rename_i h
    have h1 : k < (m - o + p - 1) / p ↔ (k + 1) * p ≤ m - o + p - 1 := Int.add_one_le_iff.symm.trans (Int.le_ediv_iff_mul_le (by omega))
    rw [h1, Int.add_mul]; omega
theorem eb_bd (p o m : Int) (hp : 1 ≤ p) (ho : o ≤ m) : (eb p o m - 1) * p < m - o ∧ m - o ≤ eb p o m * p := by
  have h0 := eb_nonneg p o m hp
  have h1 := eb_lt p o m hp (eb p o m) h0
  constructor
  · rcases Int.lt_or_le 0 (eb p o m) with h | h
    · have := (eb_lt p o m hp (eb p o m - 1) (by omega)).mp (by omega); omega
    · have e : eb p o m = 0 := by omega
      rw [e]; omega
  · have : ¬ (o + eb p o m * p < m) := fun h => by have := h1.mpr h; omega
    omega
theorem before_eq (p o m : Int) (hp : 1 ≤ p) (hp' : p ≤ 100000) (ho : 0 ≤ o) (ho' : o ≤ 100000) (hm : 0 ≤ m) (hm' : m ≤ 1000000000000) : impl_Clock_edgesBefore.f p o m = some (eb p o m) := by
  unfold impl_Clock_edgesBefore.f eb
  rw [if_neg (by omega), w64 (x := m - o) (by omega) (by omega), w64 (x := m - o + p) (by omega) (by omega), w64 (x := m - o + p - 1) (by omega) (by omega)]
  congr 1
  by_cases h : m ≤ o
  · rw [if_pos h]
    by_cases k : 0 ≤ m - o + p - 1
    · rw [Int.tdiv_eq_ediv_of_nonneg k, Int.ediv_eq_zero_of_lt k (by omega), w64 (by omega) (by omega)]; unfold mx; split <;> omega
    · have : Int.tdiv (m - o + p - 1) p = - (Int.tdiv (-(m - o + p - 1)) p) := by rw [Int.neg_tdiv]; omega
      rw [this, Int.tdiv_eq_ediv_of_nonneg (by omega)]
      have h0 : 0 ≤ (-(m - o + p - 1)) / p := Int.ediv_nonneg (by omega) (by omega)
      have h1 : (-(m - o + p - 1)) / p ≤ -(m - o + p - 1) := Int.ediv_le_self _ (by omega)
      rw [w64 (by omega) (by omega)]
      unfold mx; split <;> omega
  · rw [if_neg h, Int.tdiv_eq_ediv_of_nonneg (by omega)]
    have h0 : 0 ≤ (m - o + p - 1) / p := Int.ediv_nonneg (by omega) (by omega)
    have h1 : (m - o + p - 1) / p ≤ m - o + p - 1 := Int.ediv_le_self _ (by omega)
    rw [w64 (by omega) (by omega)]
    unfold mx; split <;> omega
theorem eb_le (p o m : Int) (hp : 1 ≤ p) (ho : 0 ≤ o) (hm : 0 ≤ m) : eb p o m ≤ m := by
  rcases Int.lt_or_le m (eb p o m) with h | h
  · have := (eb_lt p o m hp m hm).mp h
    have : m * 1 ≤ m * p := Int.mul_le_mul_of_nonneg_left hp hm
    omega
  · exact h
theorem eb_mono (p o m m' : Int) (hp : 1 ≤ p) (h : m ≤ m') : eb p o m ≤ eb p o m' := by
  rcases Int.lt_or_le (eb p o m') (eb p o m) with k | k
  · have h0 := eb_nonneg p o m' hp
    have := (eb_lt p o m hp _ h0).mp k
    have := (eb_lt p o m' hp _ h0).mpr (by omega)
    omega
  · exact k
end Go.Proofs.Ytfoedfigjcmjbaa.L

/- Lists of clocks: copies, equality, validity; and greatest common divisors, of the program and of the reference. No conditions. -/
namespace Go.Proofs.Ytfoedfigjcmjbaa.L
set_option linter.unusedVariables false
set_option linter.unusedSimpArgs false
open Go.RowKit Go.Proofs.Ytfoedfigjcmjbaa.A Go.Proofs.YtfoedfigjcmjbaaW.PrintWords Go.Proofs.YtfoedfigjcmjbaaW.PrintLast Go.Proofs.YtfoedfigjcmjbaaW.PrintMore
theorem in_eq (a b c : Int) : spec_l00In.f a b c = some (decide (b ≤ a ∧ a ≤ c)) := by
  unfold spec_l00In.f
  by_cases h : a ≥ b
  · rw [if_pos h]; have h' : b ≤ a := h; simp [h']
  · rw [if_neg h]; have h' : ¬ b ≤ a := h; simp [h']
theorem is_eq (p o : Int) : spec_l10Is.f p o = impl_ValidClock.f p o := by
  rw [valid_eq]; unfold spec_l10Is.f
  rw [in_eq, in_eq]; simp only [Option.bind_some]
  by_cases h : 1 ≤ p ∧ p ≤ 100000 <;> by_cases k : 0 ≤ o ∧ o ≤ 100000 <;> simp [h, k]
/-- The copy of a clock. -/
def conv (c : S43) : S31 := ⟨c.f0, c.f1⟩
abbrev IC := S31
abbrev LC := S43
theorem rdi (p : List IC) (x : IC) (l : List IC) (i : Int) (h : i = p.length) : rd_T31 (p ++ x :: l) i = x := by subst h; simp [rd_T31]
theorem rdl (p : List LC) (x : LC) (l : List LC) (i : Int) (h : i = p.length) : rd_T43 (p ++ x :: l) i = x := by subst h; simp [rd_T43]
theorem conv_loop : ∀ (l p : List LC) (k : Nat) (q r : List IC) (i : Int), i = p.length → q.length = p.length → r.length = l.length → l.length < k → (p ++ l).length ≤ 2000000 →
    laws_toClockS.l0 k (p ++ l) (q ++ r) i = some (q ++ l.map conv)
  | [], p, k, q, r, i, hi, hq, hr, hk, hl => by
    obtain ⟨k, rfl⟩ : ∃ m, k = m + 1 := ⟨k - 1, by omega⟩
    have : r = [] := List.eq_nil_of_length_eq_zero hr
    subst this
    simp only [laws_toClockS.l0]; rw [if_neg (by simp [hi])]; simp
  | x :: l, p, k, q, r, i, hi, hq, hr, hk, hl => by
    obtain ⟨k, rfl⟩ : ∃ m, k = m + 1 := ⟨k - 1, by omega⟩
    simp only [List.length_append, List.length_cons] at hl hk hr
    cases r with
    | nil => simp at hr
    | cons y r =>
    simp only [List.length_cons] at hr
    simp only [laws_toClockS.l0, laws_toClock.f, Option.bind_some]
    have e : (q ++ y :: r).set (i : Int).toNat (⟨x.f0, x.f1⟩ : IC) = q ++ conv x :: r := by
      have : i.toNat = q.length := by omega
      rw [this]; simp [conv]
    rw [if_pos (by simp [hi]; omega), if_pos (by omega), if_pos (by simp; omega), rdl p x l i hi, e, w64 (x := i + 1) (by omega) (by omega)]
    have h := conv_loop l (p ++ [x]) k (q ++ [conv x]) r (i + 1) (by simp [hi]) (by simp [hq]) (by omega) (by omega) (by simp; omega)
    simp only [List.append_assoc, List.singleton_append] at h
    rw [h]; simp
theorem conv_eq (l : List LC) (hl : l.length ≤ 1048576) (k : Nat) (hk : l.length < k) : laws_toClockS.f k l = some (l.map conv) := by
  unfold laws_toClockS.f
  rw [if_pos (by omega), if_pos (by simp; omega)]
  have := conv_loop l [] k [] (List.replicate ((l.length : Int) : Int).toNat z31) 0 rfl rfl (by simp) hk (by simp; omega)
  rw [List.nil_append, List.nil_append, List.nil_append] at this
  exact this
theorem sz_eq (l : List LC) (hl : l.length ≤ maxLen) : ∃ r, laws_szClockS.f l 1048576 = some r ∧ (r < 0 ∨ l.length ≤ 1048576) := by
  unfold laws_szClockS.f
  have : maxLen = 9223372036854775807 := rfl
  rw [w64 (by omega) (by omega)]
  split
  · exact ⟨_, rfl, .inl (by omega)⟩
  · exact ⟨_, rfl, .inr (by omega)⟩
theorem eqc_loop : ∀ (l p : List IC) (k : Nat) (i : Int), i = p.length → l.length < k → (p ++ l).length ≤ 2000000 → laws_eqClockS.l0 k (p ++ l) (p ++ l) i = some true
  | [], p, k, i, hi, hk, hl => by
    obtain ⟨k, rfl⟩ : ∃ m, k = m + 1 := ⟨k - 1, by omega⟩
    simp only [laws_eqClockS.l0]; rw [if_neg (by simp [hi])]
  | x :: l, p, k, i, hi, hk, hl => by
    obtain ⟨k, rfl⟩ : ∃ m, k = m + 1 := ⟨k - 1, by omega⟩
    simp only [List.length_append, List.length_cons] at hl hk
    simp only [laws_eqClockS.l0]
    have he : ∀ y : IC, laws_eqClock.f y.f0 y.f1 y.f0 y.f1 = some true := fun y => by simp [laws_eqClock.f]
    rw [if_pos (by simp [hi]; omega), if_pos (by omega), if_pos (by simp [hi]; omega), he]
    simp only [Option.bind_some, if_true]
    rw [w64 (x := i + 1) (by omega) (by omega)]
    have h := eqc_loop l (p ++ [x]) k (i + 1) (by simp [hi]) (by omega) (by simp; omega)
    simpa using h
theorem eqc_self (l : List IC) (hl : l.length ≤ 2000000) (k : Nat) (hk : l.length < k) : laws_eqClockS.f k l l = some true := by
  unfold laws_eqClockS.f; rw [if_pos rfl]
  have := eqc_loop l [] k 0 rfl hk (by simpa using hl)
  simpa using this
/-- Are there 1 to 6 valid clocks. -/
def all (l : List IC) : Bool := decide (1 ≤ (l.length : Int) ∧ (l.length : Int) ≤ 6) && l.all impl_areClocks.ok
theorem are_eq (l : List IC) : impl_areClocks.f l = some (all l) := rfl
theorem ok_eq (c : IC) : spec_l10Is.f c.f0 c.f1 = some (impl_areClocks.ok c) := by rw [is_eq, valid_eq]; rfl
theorem all_loop : ∀ (l p : List IC) (k : Nat) (i : Int), i = p.length → (p ++ l).length ≤ 6 → 1 ≤ (p ++ l).length → 2 * l.length + 1 < k → spec_l10All.l0 k (p ++ l) i = some (l.all impl_areClocks.ok)
  | [], p, k, i, hi, hl, h1, hk => by
    obtain ⟨k, rfl⟩ : ∃ m, k = m + 1 + 1 := ⟨k - 2, by simp at hk; omega⟩
    simp only [spec_l10All.l0, spec_l10All.j1]; rw [if_neg (by simp [hi]), if_neg (by simp), in_eq]
    simp only [Option.bind_some]
    rw [decide_eq_true (by omega)]; rfl
  | x :: l, p, k, i, hi, hl, h1, hk => by
    obtain ⟨k, rfl⟩ : ∃ m, k = m + 1 + 1 := ⟨k - 2, by simp at hk; omega⟩
    simp only [List.length_append, List.length_cons] at hl hk
    simp only [spec_l10All.l0, spec_l10All.j1]
    rw [if_pos (by simp [hi]; omega), if_pos (by simp; omega), if_pos (by omega), if_pos (by simp [hi]; omega), rdi p x l i hi, ok_eq]
    simp only [Option.bind_some]
    cases hx : impl_areClocks.ok x with
    | true =>
      simp only [if_true]
      rw [w64 (x := i + 1) (by omega) (by omega)]
      have h := all_loop l (p ++ [x]) k (i + 1) (by simp [hi]) (by simp; omega) (by simp; omega) (by omega)
      simp only [List.append_assoc, List.singleton_append] at h
      rw [h]; simp [hx]
    | false => simp [hx]
theorem all_eq (l : List IC) (hl : l.length ≤ 2000000) (k : Nat) (hk : 20 ≤ k) : spec_l10All.f k l = some (all l) := by
  unfold spec_l10All.f all
  by_cases h : 1 ≤ l.length ∧ l.length ≤ 6
  · have := all_loop l [] k 0 rfl (by simpa using h.2) (by simpa using h.1) (by omega)
    rw [List.nil_append] at this
    rw [this, decide_eq_true (by omega)]; simp
  · obtain ⟨k, rfl⟩ : ∃ m, k = m + 1 + 1 := ⟨k - 2, by omega⟩
    simp only [spec_l10All.l0, spec_l10All.j1]
    have hf : decide (1 ≤ (l.length : Int) ∧ (l.length : Int) ≤ 6) = false := decide_eq_false (by omega)
    split
    · rw [if_neg (by simp; omega), in_eq, hf]; rfl
    · rw [if_neg (by simp), in_eq, hf]; rfl
/-- Greatest common divisors. -/
theorem tmod_cast (a b : Nat) : Int.tmod (a : Int) (b : Int) = ((a % b : Nat) : Int) := by
  rw [Int.tmod_eq_emod_of_nonneg (by omega)]; exact (Int.natCast_emod a b).symm
theorem gcd_step (a b : Nat) : Nat.gcd b (a % b) = Nat.gcd a b := by
  rw [Nat.gcd_comm b, ← Nat.gcd_rec, Nat.gcd_comm]
theorem impl_gcd_loop : ∀ (b a k : Nat), b < k → a ≤ 9223372036854775807 → b ≤ 9223372036854775807 → impl_gcd.l0 k (a : Int) (b : Int) = some ((Nat.gcd a b : Nat) : Int) := by
  intro b
  induction b using Nat.strongRecOn with
  | _ b ih =>
  intro a k hk ha hb
  obtain ⟨k, rfl⟩ : ∃ m, k = m + 1 := ⟨k - 1, by omega⟩
  simp only [impl_gcd.l0]
  by_cases h : (b : Int) = 0
  · rw [if_pos h]
    have h0 : b = 0 := by omega
    subst h0
    rw [Nat.gcd_zero_right, w64 (by omega) (by omega)]
    unfold mx; split
    · congr 1; omega
    · rfl
  · have hlt : a % b < b := Nat.mod_lt _ (by omega)
    rw [if_neg h, tmod_cast, ih (a % b) hlt b k (by omega) hb (by omega), gcd_step]
theorem spec_gcd_loop : ∀ (b a k : Nat), b < k → spec_l01Gcd.l0 k (a : Int) (b : Int) = some ((Nat.gcd a b : Nat) : Int) := by
  intro b
  induction b using Nat.strongRecOn with
  | _ b ih =>
  intro a k hk
  obtain ⟨k, rfl⟩ : ∃ m, k = m + 1 := ⟨k - 1, by omega⟩
  simp only [spec_l01Gcd.l0]
  by_cases h : (b : Int) > 0
  · rw [if_pos h, if_neg (by omega), tmod_cast, ih (a % b) (Nat.mod_lt _ (by omega)) b k (by have := Nat.mod_lt a (show b > 0 by omega); omega), gcd_step]
  · have h0 : b = 0 := by omega
    subst h0
    rw [if_neg h, Nat.gcd_zero_right]
end Go.Proofs.Ytfoedfigjcmjbaa.L

/- The first meeting of clocks, as the program finds it (FirstMeet.lean without the reference's side). No conditions. -/
namespace Go.Proofs.Ytfoedfigjcmjbaa.L
set_option linter.unusedVariables false
set_option linter.unusedSimpArgs false
open Go.RowKit Go.Proofs.Ytfoedfigjcmjbaa.A Go.Proofs.YtfoedfigjcmjbaaW.PrintWords Go.Proofs.YtfoedfigjcmjbaaW.PrintLast Go.Proofs.YtfoedfigjcmjbaaW.PrintMore
namespace Meet
/-- All these clocks have an edge at m, or would have, if it is before their offset. -/
def Sol (l : List IC) (m : Int) : Prop := ∀ c ∈ l, c.f0 ∣ m - c.f1
theorem sol_snoc (p : List IC) (c : IC) (m : Int) : Sol (p ++ [c]) m ↔ Sol p m ∧ c.f0 ∣ m - c.f1 := by
  unfold Sol
  constructor
  · intro h; exact ⟨fun d hd => h d (by simp [hd]), h c (by simp)⟩
  · rintro ⟨h1, h2⟩ d hd
    rcases List.mem_append.1 hd with hd | hd
    · exact h1 d hd
    · rw [List.mem_singleton.1 hd]; exact h2
theorem sol_app {p q : List IC} {m : Int} (h : Sol (p ++ q) m) : Sol p m := fun d hd => h d (by simp [hd])
/-- The least common multiple of C and P, as it is computed. -/
theorem lcm_facts (C P : Nat) (hC : 1 ≤ C) (hP : 1 ≤ P) : C ∣ C / Nat.gcd C P * P ∧ P ∣ C / Nat.gcd C P * P ∧ 1 ≤ C / Nat.gcd C P * P ∧ ∀ x : Int, (C : Int) ∣ x → (P : Int) ∣ x → ((C / Nat.gcd C P * P : Nat) : Int) ∣ x := by
  have hg : Nat.gcd C P ∣ C := Nat.gcd_dvd_left _ _
  have g0 : 0 < Nat.gcd C P := Nat.gcd_pos_of_pos_left _ (by omega)
  have e : C / Nat.gcd C P * P = Nat.lcm C P := by
    unfold Nat.lcm; rw [Nat.div_mul_right_comm hg]
  rw [e]
  refine ⟨Nat.dvd_lcm_left _ _, Nat.dvd_lcm_right _ _, Nat.lcm_pos (by omega) (by omega), fun x h1 h2 => ?_⟩
  rw [Int.ofNat_dvd_left] at h1 h2 ⊢
  exact Nat.lcm_dvd h1 h2
theorem lcm_le (C P : Nat) (hC : 1 ≤ C) (hP : 1 ≤ P) : C ≤ C / Nat.gcd C P * P := Nat.le_of_dvd (lcm_facts C P hC hP).2.2.1 (lcm_facts C P hC hP).1
def M : Int := 1000000000000
/-- What is kept of the clocks p that have been looked at: 'mt' is the first meeting from lo on, and they meet there and each C later, as far as this matters up to M. -/
structure Inv (lo mt : Int) (C : Nat) (p : List IC) : Prop where
  nonneg : 0 ≤ lo
  lo_le : lo ≤ mt
  le_M : mt ≤ M
  sol : Sol p mt
  pos : 1 ≤ C
  only : ∀ m, lo ≤ m → m ≤ M → Sol p m → (C : Int) ∣ m - mt ∧ mt ≤ m
  each : (C : Int) ≤ M → ∀ m, (C : Int) ∣ m - mt → Sol p m
/-- While one clock more is looked at: mt + j C is at hand. -/
structure Try (lo mt cur : Int) (C j : Nat) (p : List IC) (c : IC) : Prop where
  base : Inv lo mt C p
  cur_eq : cur = mt + j * C
  no : ∀ i : Nat, i < j → ¬ c.f0 ∣ mt + i * C - c.f1
  le_M : cur ≤ M
  sol : Sol p cur
section
variable {lo mt cur : Int} {C j : Nat} {p : List IC} {c : IC}
theorem Try.start (c : IC) (h : Inv lo mt C p) : Try lo mt mt C 0 p c := ⟨h, by simp, fun i hi => absurd hi (Nat.not_lt_zero i), h.le_M, h.sol⟩
theorem Try.ge (h : Try lo mt cur C j p c) : mt ≤ cur := by
  have := Int.mul_nonneg (Int.natCast_nonneg j) (Int.natCast_nonneg C)
  have := h.cur_eq; omega
theorem mul_lt_of (a : Int) (C : Nat) (hC : 1 ≤ C) (h : a < 0) : a * C < 0 := Int.mul_neg_of_neg_of_pos h (by omega)
theorem Inv.steps (h : Inv lo mt C p) {m : Int} (h1 : lo ≤ m) (h2 : m ≤ M) (hs : Sol p m) : ∃ t : Nat, m = mt + t * C := by
  obtain ⟨⟨q, hq⟩, hle⟩ := h.only m h1 h2 hs
  have hC := h.pos
  rw [Int.mul_comm] at hq
  have q0 : 0 ≤ q := by
    rcases Int.lt_or_le q 0 with hneg | h0
    · have := mul_lt_of q C hC hneg; omega
    · exact h0
  obtain ⟨q, rfl⟩ := Int.eq_ofNat_of_zero_le q0
  exact ⟨q, by omega⟩
/-- A meeting of all is one that has not been tried, or the one at hand. -/
theorem Try.later (h : Try lo mt cur C j p c) {m : Int} (h1 : lo ≤ m) (h2 : m ≤ M) (hs : Sol (p ++ [c]) m) : ∃ t : Nat, m = cur + t * C := by
  obtain ⟨s1, s2⟩ := (sol_snoc p c m).1 hs
  obtain ⟨q, e⟩ := h.base.steps h1 h2 s1
  have hj := h.cur_eq
  rcases Nat.lt_or_ge q j with hlt | hge
  · exact absurd (by rw [← e]; exact s2) (h.no q hlt)
  · refine ⟨q - j, ?_⟩
    have : ((q - j : Nat) : Int) = q - j := by omega
    rw [this, Int.sub_mul]; omega
theorem Try.next (h : Try lo mt cur C j p c) (hn : ¬ c.f0 ∣ cur - c.f1) (hle : cur + C ≤ M) : Try lo mt (cur + C) C (j + 1) p c := by
  have hj := h.cur_eq
  have hg := h.ge
  have hC := h.base.pos
  have := h.base.lo_le
  have := h.base.nonneg
  have hCM : (C : Int) ≤ M := by omega
  have e : cur + C = mt + ((j + 1 : Nat) : Int) * C := by
    rw [hj]; have : ((j + 1 : Nat) : Int) = j + 1 := by omega
    rw [this, Int.add_mul]; omega
  refine ⟨h.base, e, fun i hi => ?_, hle, h.base.each hCM _ ⟨((j + 1 : Nat) : Int), by rw [e, Int.mul_comm]; omega⟩⟩
  rcases Nat.lt_or_ge i j with hlt | hge
  · exact h.no i hlt
  · have : i = j := by omega
    subst this; rw [← hj]; exact hn
theorem Try.over (h : Try lo mt cur C j p c) (hn : ¬ c.f0 ∣ cur - c.f1) (hle : M < cur + C) {m : Int} (h1 : lo ≤ m) (h2 : m ≤ M) : ¬ Sol (p ++ [c]) m := by
  intro hs
  obtain ⟨t, e⟩ := h.later h1 h2 hs
  have hC := h.base.pos
  rcases Nat.eq_zero_or_pos t with rfl | ht
  · have : m = cur := by omega
    rw [this] at hs
    exact hn ((sol_snoc p c cur).1 hs).2
  · have : (1 : Int) * C ≤ (t : Int) * C := Int.mul_le_mul_of_nonneg_right (by omega) (by omega)
    omega
/-- No gap of theirs can be closed. -/
theorem Try.apart (h : Inv lo mt C p) (hc : 1 ≤ c.f0) (hg : ¬ ((Nat.gcd C c.f0.toNat : Nat) : Int) ∣ mt - c.f1) {m : Int} (h1 : lo ≤ m) (h2 : m ≤ M) : ¬ Sol (p ++ [c]) m := by
  intro hs
  obtain ⟨s1, s2⟩ := (sol_snoc p c m).1 hs
  obtain ⟨d1, _⟩ := h.only m h1 h2 s1
  have g1 : ((Nat.gcd C c.f0.toNat : Nat) : Int) ∣ (C : Int) := Int.natCast_dvd_natCast.2 (Nat.gcd_dvd_left _ _)
  have g2 : ((Nat.gcd C c.f0.toNat : Nat) : Int) ∣ c.f0 := by
    have : c.f0 = (c.f0.toNat : Int) := by omega
    rw [this]; exact Int.natCast_dvd_natCast.2 (Nat.gcd_dvd_right _ _)
  have a1 := Int.dvd_trans g1 d1
  have a2 := Int.dvd_trans g2 s2
  have := Int.dvd_sub a2 a1
  rw [show m - c.f1 - (m - mt) = mt - c.f1 by omega] at this
  exact hg this
/-- All remainders have been tried. -/
theorem Try.all (h : Try lo mt cur C j p c) (hc : 1 ≤ c.f0) (hn : ¬ c.f0 ∣ cur - c.f1) (hj : c.f0.toNat / Nat.gcd C c.f0.toNat ≤ j + 1) {m : Int} (h1 : lo ≤ m) (h2 : m ≤ M) : ¬ Sol (p ++ [c]) m := by
  intro hs
  obtain ⟨s1, s2⟩ := (sol_snoc p c m).1 hs
  obtain ⟨t, e⟩ := h.base.steps h1 h2 s1
  have hC := h.base.pos
  have e0 : c.f0 = (c.f0.toNat : Int) := by omega
  generalize hP : c.f0.toNat = P at *
  have g0 : 0 < Nat.gcd C P := Nat.gcd_pos_of_pos_left _ (by omega)
  have hR : 0 < P / Nat.gcd C P := Nat.div_pos (Nat.le_of_dvd (by omega) (Nat.gcd_dvd_right _ _)) g0
  have hd : P ∣ P / Nat.gcd C P * C := by
    obtain ⟨x, hx⟩ := Nat.gcd_dvd_left C P
    refine ⟨x, ?_⟩
    have h2 : P / Nat.gcd C P * Nat.gcd C P = P := Nat.div_mul_cancel (Nat.gcd_dvd_right _ _)
    calc P / Nat.gcd C P * C = P / Nat.gcd C P * (Nat.gcd C P * x) := by rw [← hx]
      _ = P / Nat.gcd C P * Nat.gcd C P * x := by rw [Nat.mul_assoc]
      _ = P * x := by rw [h2]
  have hdm := Nat.div_add_mod t (P / Nat.gcd C P)
  have hlt := Nat.mod_lt t hR
  generalize hr : t % (P / Nat.gcd C P) = r at *
  generalize hs2 : t / (P / Nat.gcd C P) = s at *
  have hP2 : (P : Int) ∣ ((P / Nat.gcd C P * s : Nat) : Int) * C := by
    have : ((P / Nat.gcd C P * s : Nat) : Int) * C = (((P / Nat.gcd C P * C) * s : Nat) : Int) := by
      rw [← Int.natCast_mul]; congr 1; rw [Nat.mul_right_comm]
    rw [this]; exact Int.natCast_dvd_natCast.2 (Nat.dvd_mul_right_of_dvd hd s)
  have hr2 : c.f0 ∣ mt + r * C - c.f1 := by
    rw [e0] at s2 ⊢
    have := Int.dvd_sub s2 hP2
    rw [e] at this
    rw [← hdm] at this
    have e3 : (((P / Nat.gcd C P * s + r : Nat) : Int)) * C = ((P / Nat.gcd C P * s : Nat) : Int) * C + r * C := by
      rw [← Int.add_mul]; congr 1
    rw [e3] at this
    rwa [show mt + (((P / Nat.gcd C P * s : Nat) : Int) * C + r * C) - c.f1 - ((P / Nat.gcd C P * s : Nat) : Int) * C = mt + r * C - c.f1 by omega] at this
  rcases Nat.lt_or_ge r j with hlt2 | hge
  · exact h.no r hlt2 hr2
  · have : r = j := by omega
    subst this
    rw [← h.cur_eq] at hr2
    exact hn hr2
theorem Try.diff (h : Try lo mt cur C j p c) (hc : 1 ≤ c.f0) (hy : c.f0 ∣ cur - c.f1) {m : Int} (h1 : lo ≤ m) (h2 : m ≤ M) (hs : Sol (p ++ [c]) m) : ((C / Nat.gcd C c.f0.toNat * c.f0.toNat : Nat) : Int) ∣ m - cur ∧ cur ≤ m := by
  have hC := h.base.pos
  obtain ⟨t, e⟩ := h.later h1 h2 hs
  have s2 := ((sol_snoc p c m).1 hs).2
  have t0 := Int.mul_nonneg (Int.natCast_nonneg t) (Int.natCast_nonneg C)
  refine ⟨(lcm_facts C c.f0.toNat hC (by omega)).2.2.2 _ ⟨t, by rw [Int.mul_comm]; omega⟩ ?_, by omega⟩
  have : ((c.f0.toNat : Nat) : Int) = c.f0 := by omega
  rw [this]
  have := Int.dvd_sub s2 hy
  rwa [show m - c.f1 - (cur - c.f1) = m - cur by omega] at this
theorem Try.small (h : Try lo mt cur C j p c) (hc : 1 ≤ c.f0) (hy : c.f0 ∣ cur - c.f1) (hL : ((C / Nat.gcd C c.f0.toNat * c.f0.toNat : Nat) : Int) ≤ M) : Inv lo cur (C / Nat.gcd C c.f0.toNat * c.f0.toNat) (p ++ [c]) := by
  have hC := h.base.pos
  obtain ⟨l1, l2, l3, _⟩ := lcm_facts C c.f0.toNat hC (by omega)
  have hle := lcm_le C c.f0.toNat hC (by omega)
  refine ⟨h.base.nonneg, Int.le_trans h.base.lo_le h.ge, h.le_M, (sol_snoc p c cur).2 ⟨h.sol, hy⟩, l3, fun m a b s => h.diff hc hy a b s, fun _ m hm => (sol_snoc p c m).2 ⟨?_, ?_⟩⟩
  · refine h.base.each (by omega) m ?_
    have a1 := Int.dvd_trans (Int.natCast_dvd_natCast.2 l1) hm
    have a2 : (C : Int) ∣ cur - mt := ⟨j, by rw [h.cur_eq, Int.mul_comm]; omega⟩
    have := Int.dvd_add a1 a2
    rwa [show m - cur + (cur - mt) = m - mt by omega] at this
  · have a1 := Int.dvd_trans (Int.natCast_dvd_natCast.2 l2) hm
    have : ((c.f0.toNat : Nat) : Int) = c.f0 := by omega
    rw [this] at a1
    have := Int.dvd_add a1 hy
    rwa [show m - cur + (cur - c.f1) = m - c.f1 by omega] at this
theorem small_zero {L : Nat} {x : Int} (h : (L : Int) ∣ x) (h0 : 0 ≤ x) (h1 : x < L) : x = 0 := by
  rcases Int.lt_or_le 0 x with hp | hp
  · have := Int.le_of_dvd hp h; omega
  · omega
theorem Try.big (h : Try lo mt cur C j p c) (hc : 1 ≤ c.f0) (hy : c.f0 ∣ cur - c.f1) (hL : M < ((C / Nat.gcd C c.f0.toNat * c.f0.toNat : Nat) : Int)) {m : Int} (h1 : lo ≤ m) (h2 : m ≤ M) (hs : Sol (p ++ [c]) m) : m = cur := by
  obtain ⟨d, hle⟩ := h.diff hc hy h1 h2 hs
  have := h.base.nonneg
  have := h.base.lo_le
  have := h.ge
  have := small_zero d (by omega) (by omega)
  omega
theorem Try.capped (h : Try lo mt cur C j p c) (hc : 1 ≤ c.f0) (hy : c.f0 ∣ cur - c.f1) (hL : M < ((C / Nat.gcd C c.f0.toNat * c.f0.toNat : Nat) : Int)) : Inv lo cur 1000000000001 (p ++ [c]) := by
  refine ⟨h.base.nonneg, Int.le_trans h.base.lo_le h.ge, h.le_M, (sol_snoc p c cur).2 ⟨h.sol, hy⟩, by omega, fun m a b s => ?_, fun hM => ?_⟩
  · have := h.big hc hy hL a b s
    subst this
    exact ⟨⟨0, by simp⟩, Int.le_refl _⟩
  · exact absurd hM (by unfold M; omega)
end
/-- The answer. -/
def Ans (l : List IC) (lat : Int) (r : Int × Bool) : Prop :=
  (∃ a, r = (a, true) ∧ lat ≤ a ∧ a ≤ M ∧ Sol l a ∧ ∀ m, lat ≤ m → m ≤ M → Sol l m → a ≤ m) ∨ (r = (0, false) ∧ ∀ m, lat ≤ m → m ≤ M → ¬ Sol l m)
theorem Ans.one {l : List IC} {lat : Int} {r s : Int × Bool} (h : Ans l lat r) (k : Ans l lat s) : r = s := by
  rcases h with ⟨a, rfl, a1, a2, a3, a4⟩ | ⟨rfl, h⟩ <;> rcases k with ⟨b, rfl, b1, b2, b3, b4⟩ | ⟨rfl, k⟩
  · have := a4 b b1 b2 b3
    have := b4 a a1 a2 a3
    have : a = b := by omega
    rw [this]
  · exact absurd a3 (k a a1 a2)
  · exact absurd b3 (h b b1 b2)
  · rfl
theorem Ans.none {l p : List IC} {lo lat : Int} (hl : lo ≤ lat) (h : ∀ m, lo ≤ m → m ≤ M → ¬ Sol p m) (hp : ∀ m, Sol l m → Sol p m) : Ans l lat (0, false) :=
  .inr ⟨rfl, fun m h1 h2 hs => h m (by omega) h2 (hp m hs)⟩
theorem Ans.here {l : List IC} {lo mt lat : Int} {C : Nat} (h : Inv lo mt C l) (hl : lo ≤ lat) (hm : lat ≤ mt) : Ans l lat (mt, true) :=
  .inl ⟨mt, rfl, hm, h.le_M, h.sol, fun m h1 h2 hs => (h.only m (by omega) h2 hs).2⟩
theorem Ans.later {l : List IC} {lo mt lat : Int} {C : Nat} (h : Inv lo mt C l) (hl : lo ≤ lat) (hm : mt < lat) : Ans l lat (if mt + (lat - mt + C - 1) / C * C ≤ M then (mt + (lat - mt + C - 1) / C * C, true) else (0, false)) := by
  have hC := h.pos
  have q1 : (lat - mt + C - 1) / C * C ≤ lat - mt + C - 1 := Int.ediv_mul_le _ (by omega)
  have q2 : lat - mt + C - 1 < ((lat - mt + C - 1) / C + 1) * C := Int.lt_ediv_add_one_mul_self _ (by omega)
  have q3 : 1 ≤ (lat - mt + C - 1) / C := by rw [Int.le_ediv_iff_mul_le (by omega)]; omega
  generalize hq : (lat - mt + C - 1) / C = q at *
  have e : (q + 1) * C = q * C + C := by rw [Int.add_mul]; omega
  have least : ∀ m, lat ≤ m → m ≤ M → Sol l m → mt + q * C ≤ m := by
    intro m h1 h2 hs
    obtain ⟨t, ht⟩ := h.steps (by omega) h2 hs
    rcases Int.lt_or_le (t : Int) q with hlt | hge
    · have : ((t : Int) + 1) * C ≤ q * C := Int.mul_le_mul_of_nonneg_right (by omega) (by omega)
      rw [Int.add_mul] at this
      omega
    · have : q * C ≤ (t : Int) * C := Int.mul_le_mul_of_nonneg_right hge (by omega)
      omega
  split
  · rename_i hle
    have hCM : (C : Int) ≤ M := by
      have : 1 * (C : Int) ≤ q * C := Int.mul_le_mul_of_nonneg_right q3 (by omega)
      have := h.nonneg
      have := h.lo_le
      omega
    exact .inl ⟨_, rfl, by omega, hle, h.each hCM _ ⟨q, by rw [Int.mul_comm]; omega⟩, least⟩
  · rename_i hgt
    exact .inr ⟨rfl, fun m h1 h2 hs => hgt (Int.le_trans (least m h1 h2 hs) h2)⟩
end Meet
namespace FirstMeet
open Meet
theorem ok_bd {c : IC} (h : impl_areClocks.ok c = true) : 1 ≤ c.f0 ∧ c.f0 ≤ 100000 ∧ 0 ≤ c.f1 ∧ c.f1 ≤ 100000 := by
  unfold impl_areClocks.ok at h
  have := of_decide_eq_true h
  exact ⟨this.1.1, this.1.2, this.2.1, this.2.2⟩
theorem tdiv_cast (a b : Nat) : Int.tdiv (a : Int) (b : Int) = ((a / b : Nat) : Int) := by
  rw [Int.tdiv_eq_ediv_of_nonneg (by omega)]; exact (Int.natCast_ediv a b).symm
theorem tmod_dvd (a b : Int) : Int.tmod a b = 0 ↔ b ∣ a := ⟨Int.dvd_of_tmod_eq_zero, Int.tmod_eq_zero_of_dvd⟩
/-- The latest offset. -/
def latest : List IC → Int → Int
  | [], x => x
  | c :: l, x => latest l (mx x c.f1)
theorem latest_ge : ∀ (l : List IC) (x : Int), x ≤ latest l x ∧ ∀ c ∈ l, c.f1 ≤ latest l x
  | [], x => ⟨Int.le_refl _, fun c h => by simp at h⟩
  | c :: l, x => by
    obtain ⟨h1, h2⟩ := latest_ge l (mx x c.f1)
    have hm : x ≤ mx x c.f1 ∧ c.f1 ≤ mx x c.f1 := by unfold mx; split <;> omega
    refine ⟨by simp only [latest]; omega, fun d hd => ?_⟩
    simp only [latest]
    rcases List.mem_cons.1 hd with rfl | hd
    · omega
    · exact h2 d hd
theorem latest_le : ∀ (l : List IC) (x : Int), x ≤ 100000 → l.all impl_areClocks.ok = true → latest l x ≤ 100000
  | [], x, h, _ => h
  | c :: l, x, h, ho => by
    simp only [List.all_cons, Bool.and_eq_true] at ho
    have := ok_bd ho.1
    exact latest_le l _ (by unfold mx; split <;> omega) ho.2
/-- The fuel that the rest of the list needs. -/
def need (n : Nat) : Nat := n * 1000000300000 + 300000
theorem need_succ (n : Nat) : need (n + 1) = need n + 1000000300000 := by unfold need; omega
theorem need_ge (n : Nat) : 300000 ≤ need n := by unfold need; omega
theorem need_le (n : Nat) (h : n ≤ 6) : need n ≤ 7000000000000 := by unfold need; omega
attribute [irreducible] need

theorem impl_end (l : List IC) (lo mt lat : Int) (C k : Nat) (x35 : List IC) (n : Int) (h : Inv lo mt C l) (hl : lo ≤ lat) (hl' : lat ≤ 100000) (hC : (C : Int) ≤ 1000000000001) :
    ∃ r, impl_FirstMeeting.l1 (k + 1) lat mt C x35 n n = some r ∧ Ans l lat r := by
  have h0 := h.nonneg
  have h1 := h.lo_le
  have h2 := h.le_M
  have hp := h.pos
  unfold M at h2
  simp only [impl_FirstMeeting.l1]
  rw [if_neg (by omega)]
  by_cases c : mt < lat
  · have q1 : (lat - mt + C - 1) / C * C ≤ lat - mt + C - 1 := Int.ediv_mul_le _ (by omega)
    have q0 : 0 ≤ (lat - mt + C - 1) / C := Int.ediv_nonneg (by omega) (by omega)
    have q2 : (lat - mt + C - 1) / C ≤ lat - mt + C - 1 := Int.ediv_le_self _ (by omega)
    have q3 := Int.mul_nonneg q0 (by omega : 0 ≤ (C : Int))
    rw [if_pos c, if_neg (by omega), w64 (x := lat - mt) (by omega) (by omega), w64 (x := lat - mt + C) (by omega) (by omega), w64 (x := lat - mt + C - 1) (by omega) (by omega), Int.tdiv_eq_ediv_of_nonneg (by omega), w64 (x := (lat - mt + C - 1) / C) (by omega) (by omega), w64 (x := (lat - mt + C - 1) / C * C) (by omega) (by omega), w64 (by omega) (by omega), moment_eq]
    simp only [Option.bind_some]
    have := Ans.later h hl c
    unfold M at this
    by_cases d : mt + (lat - mt + C - 1) / C * C ≤ 1000000000000
    · rw [if_pos d] at this
      rw [decide_eq_true (by omega), if_pos rfl]; exact ⟨_, rfl, this⟩
    · rw [if_neg d] at this
      rw [decide_eq_false (by omega), if_neg (by simp)]; exact ⟨_, rfl, this⟩
  · rw [if_neg c, moment_eq, decide_eq_true (by omega)]
    simp only [Option.bind_some, if_true]
    exact ⟨_, rfl, Ans.here h hl (by omega)⟩

/-- The program's search, one clock more. -/
theorem impl_try (all p q : List IC) (c : IC) (d : List IC) (hall : all = p ++ c :: d) (lo mt lat : Int) (C : Nat) (hlat : lo ≤ lat) (hC : (C : Int) ≤ 1000000000001) (hok : impl_areClocks.ok c = true)
    (i n : Int) (x35 : List IC) (hi : 0 ≤ i) (hi' : i ≤ 100) (F : Nat)
    (rest : ∀ (mt' : Int) (C' k : Nat), Inv lo mt' C' (p ++ [c]) → (C' : Int) ≤ 1000000000001 → F < k → ∃ r, impl_FirstMeeting.l1 k lat mt' C' x35 n (i + 1) = some r ∧ Ans all lat r) :
    ∀ (e k j : Nat) (cur : Int), Try lo mt cur C j p c → M - cur ≤ e → F + 2 + e < k → ∃ r, impl_FirstMeeting.l2 k lat cur C ((Nat.gcd C c.f0.toNat : Nat) : Int) x35 n i c.f0 c.f1 = some r ∧ Ans all lat r := by
  obtain ⟨b0, b1, b2, b3⟩ := ok_bd hok
  have hsub : ∀ m, Sol all m → Sol (p ++ [c]) m := fun m hm => by
    rw [hall, show p ++ c :: d = (p ++ [c]) ++ d by simp] at hm
    exact sol_app hm
  intro e
  induction e with
  | zero =>
    intro k j cur h he hk
    obtain ⟨k, rfl⟩ : ∃ m, k = m + 1 := ⟨k - 1, by omega⟩
    have hp := h.base.pos
    have hM := h.le_M
    have h0 := h.base.nonneg
    have h1 := h.base.lo_le
    have hg := h.ge
    have g0 : 0 < Nat.gcd C c.f0.toNat := Nat.gcd_pos_of_pos_left _ (by omega)
    have m1 : C / Nat.gcd C c.f0.toNat ≤ C := Nat.div_le_self _ _
    have m0 : (0 : Int) ≤ ((C / Nat.gcd C c.f0.toNat : Nat) : Int) := Int.natCast_nonneg _
    have m2 : C / Nat.gcd C c.f0.toNat * c.f0.toNat ≤ 1000000000001 * 100000 := Nat.mul_le_mul (by omega) (by omega)
    have e0 : c.f0 = (c.f0.toNat : Int) := by omega
    unfold M at he hM
    simp only [impl_FirstMeeting.l2]
    rw [if_neg (by omega), w64 (x := cur - c.f1) (by omega) (by omega)]
    by_cases hy : Int.tmod (cur - c.f1) c.f0 = 0
    · rw [if_pos hy, if_neg (by omega), tdiv_cast, w64 (x := ((C / Nat.gcd C c.f0.toNat : Nat) : Int)) (by omega) (by omega)]
      have em : ((C / Nat.gcd C c.f0.toNat : Nat) : Int) * c.f0 = ((C / Nat.gcd C c.f0.toNat * c.f0.toNat : Nat) : Int) := by rw [Int.natCast_mul, ← e0]
      rw [em, w64 (x := ((C / Nat.gcd C c.f0.toNat * c.f0.toNat : Nat) : Int)) (by omega) (by omega), w64 (x := i + 1) (by omega) (by omega)]
      have hyd := (tmod_dvd _ _).1 hy
      split
      · exact rest cur 1000000000001 k (h.capped b0 hyd (by unfold M; omega)) (by omega) (by omega)
      · exact rest cur _ k (h.small b0 hyd (by unfold M; omega)) (by omega) (by omega)
    · rw [if_neg hy, w64 (x := cur + C) (by omega) (by omega), if_pos (by omega)]
      exact ⟨_, rfl, Ans.none hlat (fun m a b => h.over (fun hd => hy ((tmod_dvd _ _).2 hd)) (by unfold M; omega) a b) hsub⟩
  | succ e ih =>
    intro k j cur h he hk
    obtain ⟨k, rfl⟩ : ∃ m, k = m + 1 := ⟨k - 1, by omega⟩
    have hp := h.base.pos
    have hM := h.le_M
    have h0 := h.base.nonneg
    have h1 := h.base.lo_le
    have hg := h.ge
    have g0 : 0 < Nat.gcd C c.f0.toNat := Nat.gcd_pos_of_pos_left _ (by omega)
    have m1 : C / Nat.gcd C c.f0.toNat ≤ C := Nat.div_le_self _ _
    have m0 : (0 : Int) ≤ ((C / Nat.gcd C c.f0.toNat : Nat) : Int) := Int.natCast_nonneg _
    have m2 : C / Nat.gcd C c.f0.toNat * c.f0.toNat ≤ 1000000000001 * 100000 := Nat.mul_le_mul (by omega) (by omega)
    have e0 : c.f0 = (c.f0.toNat : Int) := by omega
    unfold M at he hM
    simp only [impl_FirstMeeting.l2]
    rw [if_neg (by omega), w64 (x := cur - c.f1) (by omega) (by omega)]
    by_cases hy : Int.tmod (cur - c.f1) c.f0 = 0
    · rw [if_pos hy, if_neg (by omega), tdiv_cast, w64 (x := ((C / Nat.gcd C c.f0.toNat : Nat) : Int)) (by omega) (by omega)]
      have em : ((C / Nat.gcd C c.f0.toNat : Nat) : Int) * c.f0 = ((C / Nat.gcd C c.f0.toNat * c.f0.toNat : Nat) : Int) := by rw [Int.natCast_mul, ← e0]
      rw [em, w64 (x := ((C / Nat.gcd C c.f0.toNat * c.f0.toNat : Nat) : Int)) (by omega) (by omega), w64 (x := i + 1) (by omega) (by omega)]
      have hyd := (tmod_dvd _ _).1 hy
      split
      · exact rest cur 1000000000001 k (h.capped b0 hyd (by unfold M; omega)) (by omega) (by omega)
      · exact rest cur _ k (h.small b0 hyd (by unfold M; omega)) (by omega) (by omega)
    · rw [if_neg hy, w64 (x := cur + C) (by omega) (by omega)]
      split
      · exact ⟨_, rfl, Ans.none hlat (fun m a b => h.over (fun hd => hy ((tmod_dvd _ _).2 hd)) (by unfold M; omega) a b) hsub⟩
      · exact ih k (j + 1) (cur + C) (h.next (fun hd => hy ((tmod_dvd _ _).2 hd)) (by unfold M; omega)) (by unfold M; omega) (by omega)

theorem impl_loop (all : List IC) (lat lo : Int) (hlat : lo ≤ lat) (hlat' : lat ≤ 100000) : ∀ (d p x35 pre : List IC) (mt : Int) (C k : Nat) (i : Int), all = p ++ d → x35 = pre ++ d → i = pre.length → x35.length ≤ 6 → d.all impl_areClocks.ok = true → Inv lo mt C p → (C : Int) ≤ 1000000000001 → need d.length < k →
    ∃ r, impl_FirstMeeting.l1 k lat mt C x35 ((x35.length : Nat) : Int) i = some r ∧ Ans all lat r
  | [], p, x35, pre, mt, C, k, i, ha, hx, hi, hl, _, h, hC, hk => by
    obtain ⟨k, rfl⟩ : ∃ m, k = m + 1 := ⟨k - 1, by omega⟩
    have e : i = ((x35.length : Nat) : Int) := by rw [hx, hi]; simp
    rw [e]
    have ep : all = p := by rw [ha]; simp
    rw [ep]
    exact impl_end p lo mt lat C k x35 _ h hlat hlat' hC
  | c :: d, p, x35, pre, mt, C, k, i, ha, hx, hi, hl, ho, h, hC, hk => by
    obtain ⟨k, rfl⟩ : ∃ m, k = m + 1 := ⟨k - 1, by omega⟩
    have hn := need_ge d.length
    rw [List.length_cons, need_succ] at hk
    simp only [List.all_cons, Bool.and_eq_true] at ho
    obtain ⟨b0, b1, b2, b3⟩ := ok_bd ho.1
    have hlen : x35.length = pre.length + (d.length + 1) := by rw [hx]; simp
    have h0 := h.nonneg
    have h1 := h.lo_le
    have h2 := h.le_M
    unfold M at h2
    have hp := h.pos
    have hP : c.f0 = (c.f0.toNat : Int) := by omega
    have g0 : 0 < Nat.gcd C c.f0.toNat := Nat.gcd_pos_of_pos_left _ (by omega)
    simp only [impl_FirstMeeting.l1]
    have hr : rd_T31 x35 i = c := by rw [hx]; exact rdi pre c d i hi
    rw [if_pos (by omega), if_pos (by omega), if_pos (by omega), hr]
    unfold impl_gcd.f
    have hgcd : impl_gcd.l0 k (C : Int) c.f0 = some ((Nat.gcd C c.f0.toNat : Nat) : Int) := by
      rw [hP]; simp only [Int.toNat_natCast]; exact impl_gcd_loop _ _ k (by omega) (by omega) (by omega)
    rw [hgcd]; simp only [Option.bind_some]
    rw [if_neg (by omega), w64 (x := mt - c.f1) (by omega) (by omega)]
    by_cases hg : Int.tmod (mt - c.f1) ((Nat.gcd C c.f0.toNat : Nat) : Int) = 0
    · rw [if_pos hg]
      refine impl_try all p [] c d ha lo mt lat C hlat hC ho.1 i _ x35 (by omega) (by omega) (need d.length) (fun mt' C' k' hI hC' hk' => ?_) 1000000000000 k 0 mt (Try.start c h) (by unfold M; omega) (by omega)
      exact impl_loop all lat lo hlat hlat' d (p ++ [c]) x35 (pre ++ [c]) mt' C' k' (i + 1) (by rw [ha]; simp) (by rw [hx]; simp) (by simp [hi]) hl ho.2 hI hC' hk'
    · rw [if_neg hg]
      refine ⟨_, rfl, Ans.none hlat (fun m a b => Try.apart h b0 (fun hd => hg ((tmod_dvd _ _).2 hd)) a b) (fun m hm => ?_)⟩
      rw [ha, show p ++ c :: d = (p ++ [c]) ++ d by simp] at hm
      exact sol_app hm
theorem impl_latest : ∀ (l p : List IC) (k : Nat) (x : Int) (i : Int) (x0 : List IC), i = p.length → (p ++ l).length ≤ 6 → x0.length = (p ++ l).length → 1 ≤ x0.length → l.length < k → ∃ k', k ≤ k' + l.length + 1 ∧ impl_FirstMeeting.l0 k x0 x (p ++ l) (((p ++ l).length : Nat) : Int) i = impl_FirstMeeting.l1 k' (latest l x) ((rd_T31 x0 0).f1) ((rd_T31 x0 0).f0) (x0.drop 1) (((x0.drop 1).length : Nat) : Int) 0
  | [], p, k, x, i, x0, hi, hl, h0, h1, hk => by
    obtain ⟨k, rfl⟩ : ∃ m, k = m + 1 := ⟨k - 1, by omega⟩
    refine ⟨k, by simp, ?_⟩
    simp only [impl_FirstMeeting.l0]
    rw [if_neg (by simp [hi]), if_pos (by omega), if_pos (by omega)]; rfl
  | c :: l, p, k, x, i, x0, hi, hl, h0, h1, hk2 => by
    obtain ⟨k, rfl⟩ : ∃ m, k = m + 1 := ⟨k - 1, by omega⟩
    simp only [List.length_append, List.length_cons] at hl h0 hk2
    simp only [impl_FirstMeeting.l0]
    rw [if_pos (by simp [hi]; omega), if_pos (by omega), if_pos (by simp [hi]; omega), rdi p c l i hi, w64 (x := i + 1) (by omega) (by omega)]
    have h := impl_latest l (p ++ [c]) k (mx x c.f1) (i + 1) x0 (by simp [hi]) (by simp; omega) (by simp [h0]) h1 (by omega)
    simp only [List.append_assoc, List.singleton_append] at h
    obtain ⟨k', hk', e⟩ := h
    exact ⟨k', by rw [List.length_cons]; omega, e⟩

theorem lcm_alt (C P : Nat) : C * (P / Nat.gcd C P) = C / Nat.gcd C P * P := by
  rw [← Nat.mul_div_assoc _ (Nat.gcd_dvd_right C P), Nat.div_mul_right_comm (Nat.gcd_dvd_left C P)]
theorem try_ans {all p : List IC} {c : IC} (hall : all = p ++ [c]) {lo mt cur : Int} {C j : Nat} (h : Try lo mt cur C j p c) (hy : c.f0 ∣ cur - c.f1) : Ans all lo (cur, true) := by
  refine .inl ⟨cur, rfl, Int.le_trans h.base.lo_le h.ge, h.le_M, by rw [hall]; exact (sol_snoc p c cur).2 ⟨h.sol, hy⟩, fun m a b s => ?_⟩
  rw [hall] at s
  obtain ⟨t, e⟩ := h.later a b s
  have := Int.mul_nonneg (Int.natCast_nonneg t) (Int.natCast_nonneg C)
  omega
instance solDec (l : List IC) (m : Int) : Decidable (Sol l m) := by unfold Sol; exact inferInstance
end FirstMeet
end Go.Proofs.Ytfoedfigjcmjbaa.L

/- Two clocks: the common period, how far apart they are, moments that both ask for, and sums over ranges. No conditions. -/
namespace Go.Proofs.Ytfoedfigjcmjbaa.L
set_option linter.unusedVariables false
set_option linter.unusedSimpArgs false
open Go.RowKit Go.Proofs.Ytfoedfigjcmjbaa.A Go.Proofs.YtfoedfigjcmjbaaW.PrintWords Go.Proofs.YtfoedfigjcmjbaaW.PrintLast Go.Proofs.YtfoedfigjcmjbaaW.PrintMore
namespace Near
theorem bez (a b : Nat) : ∃ x y : Int, a * x + b * y = (Nat.gcd a b : Nat) := by
  induction a, b using Nat.gcd.induction with
  | H0 n => exact ⟨0, 1, by simp⟩
  | H1 m n hm ih =>
    obtain ⟨x, y, h⟩ := ih
    refine ⟨y - (n / m : Nat) * x, x, ?_⟩
    have e : ((n % m : Nat) : Int) = n - m * (n / m : Nat) := by
      have := Nat.div_add_mod n m
      have h2 : ((m * (n / m) + n % m : Nat) : Int) = (n : Nat) := by rw [this]
      rw [Int.natCast_add, Int.natCast_mul] at h2; omega
    rw [Nat.gcd_rec m n, ← h, e, Int.mul_sub, Int.sub_mul]
    have : (m : Int) * ((n / m : Nat) * x) = m * (n / m : Nat) * x := (Int.mul_assoc _ _ _).symm
    rw [this]; omega
/-- The common period of two. -/
def com2 (p q : Nat) : Nat := p / Nat.gcd p q * q
theorem com2_facts (p q : Nat) (hp : 1 ≤ p) (hq : 1 ≤ q) : (p : Int) ∣ com2 p q ∧ (q : Int) ∣ com2 p q ∧ 1 ≤ com2 p q ∧ com2 p q ≤ p * q ∧ com2 p q / q = p / Nat.gcd p q ∧ ∀ x : Int, (p : Int) ∣ x → (q : Int) ∣ x → ((com2 p q : Nat) : Int) ∣ x := by
  have hg : Nat.gcd p q ∣ p := Nat.gcd_dvd_left _ _
  have e : com2 p q = Nat.lcm p q := by
    unfold com2 Nat.lcm; rw [Nat.div_mul_right_comm hg]
  refine ⟨?_, ?_, ?_, ?_, ?_, fun x h1 h2 => ?_⟩
  · rw [e, Int.ofNat_dvd]; exact Nat.dvd_lcm_left _ _
  · rw [e, Int.ofNat_dvd]; exact Nat.dvd_lcm_right _ _
  · rw [e]; exact Nat.lcm_pos (by omega) (by omega)
  · unfold com2; exact Nat.mul_le_mul (Nat.div_le_self _ _) (Nat.le_refl _)
  · unfold com2; exact Nat.mul_div_cancel _ (by omega)
  · rw [e]; rw [Int.ofNat_dvd_left] at h1 h2 ⊢
    exact Nat.lcm_dvd h1 h2
/-- Both can be asked for at once, in whatever window of a common period's length, if their difference is a multiple of the greatest common divisor. -/
theorem crt (p q : Nat) (hp : 1 ≤ p) (hq : 1 ≤ q) (o w lo : Int) (h : ((Nat.gcd p q : Nat) : Int) ∣ w - o) : ∃ t, lo ≤ t ∧ t < lo + com2 p q ∧ (p : Int) ∣ t - o ∧ (q : Int) ∣ t - w := by
  obtain ⟨f1, f2, f3, _⟩ := com2_facts p q hp hq
  obtain ⟨x, y, hb⟩ := bez p q
  obtain ⟨s, hs⟩ := h
  have hL : (1 : Int) ≤ com2 p q := by omega
  generalize ((com2 p q : Nat) : Int) = C at *
  have e0 := Int.emod_nonneg (o + p * x * s - lo) (by omega : C ≠ 0)
  have e1 := Int.emod_lt_of_pos (o + p * x * s - lo) (by omega : 0 < C)
  have e2 := Int.mul_ediv_add_emod (o + p * x * s - lo) C
  have hC : C ∣ lo + (o + p * x * s - lo) % C - (o + p * x * s) := ⟨-((o + p * x * s - lo) / C), by rw [Int.mul_neg]; omega⟩
  refine ⟨lo + (o + p * x * s - lo) % C, by omega, by omega, ?_, ?_⟩
  · have h1 := Int.dvd_trans f1 hC
    have h2 : (p : Int) ∣ p * x * s := ⟨x * s, Int.mul_assoc _ _ _⟩
    have := Int.dvd_add h1 h2
    have e : lo + (o + p * x * s - lo) % C - (o + p * x * s) + p * x * s = lo + (o + p * x * s - lo) % C - o := by omega
    rw [e] at this; exact this
  · have h1 := Int.dvd_trans f2 hC
    have h2 : (q : Int) ∣ q * y * s := ⟨y * s, Int.mul_assoc _ _ _⟩
    have e3 : p * x * s + q * y * s = w - o := by rw [hs, ← hb, Int.add_mul]
    have := Int.dvd_sub h1 h2
    have e : lo + (o + p * x * s - lo) % C - (o + p * x * s) - q * y * s = lo + (o + p * x * s - lo) % C - w := by omega
    rw [e] at this; exact this
theorem gcd_facts (p q : Nat) (hp : 1 ≤ p) (hq : 1 ≤ q) : 1 ≤ Nat.gcd p q ∧ Nat.gcd p q ≤ p ∧ Nat.gcd p q ≤ q ∧ ((Nat.gcd p q : Nat) : Int) ∣ p ∧ ((Nat.gcd p q : Nat) : Int) ∣ q :=
  ⟨Nat.gcd_pos_of_pos_left _ (by omega), Nat.gcd_le_left _ (by omega), Nat.gcd_le_right _ (by omega), Int.ofNat_dvd.2 (Nat.gcd_dvd_left _ _), Int.ofNat_dvd.2 (Nat.gcd_dvd_right _ _)⟩
theorem tmod_dvd (a b : Int) : Int.tmod a b = 0 ↔ b ∣ a := ⟨Int.dvd_of_tmod_eq_zero, Int.tmod_eq_zero_of_dvd⟩
theorem tdiv_cast (a b : Nat) : Int.tdiv (a : Int) (b : Int) = ((a / b : Nat) : Int) := by
  rw [Int.tdiv_eq_ediv_of_nonneg (by omega)]; exact (Int.natCast_ediv a b).symm
/-- How far the clocks are apart, as it is computed. -/
theorem apart_eq (p q : Nat) (o u : Int) (k : Nat) (hp : 1 ≤ p) (hp' : p ≤ 100) (hq : 1 ≤ q) (hq' : q ≤ 100) (ho : 0 ≤ o) (ho' : o ≤ 100) (hu : 0 ≤ u) (hu' : u ≤ 100) (hk : 1000 ≤ k) :
    impl_apart.f k p o q u = some (((Nat.gcd p q : Nat) : Int), (u - o) % ((Nat.gcd p q : Nat) : Int)) := by
  obtain ⟨g1, g2, g3, _⟩ := gcd_facts p q hp hq
  unfold impl_apart.f impl_gcd.f
  rw [impl_gcd_loop q p k (by omega) (by omega) (by omega)]; simp only [Option.bind_some]
  rw [if_neg (by omega), w64 (x := u - o) (by omega) (by omega)]
  generalize hg : Nat.gcd p q = g at *
  have b1 : -(g : Int) < Int.tmod (u - o) g := by
    rcases Int.lt_or_le (u - o) 0 with h | h
    · have e := Int.neg_tmod (-(u - o)) (g : Int)
      rw [show -(-(u - o)) = u - o by omega] at e
      have := Int.tmod_lt_of_pos (-(u - o)) (by omega : (0 : Int) < g)
      omega
    · have := Int.tmod_nonneg (g : Int) h; omega
  have b2 := Int.tmod_lt_of_pos (u - o) (by omega : (0 : Int) < g)
  rw [w64 (by omega) (by omega), tmod_pos _ _ (by omega), Int.add_emod_right]
  congr 2
  have e := Int.mul_tdiv_add_tmod (u - o) (g : Int)
  have e2 : Int.tmod (u - o) g = u - o + g * (-(Int.tdiv (u - o) g)) := by rw [Int.mul_neg]; omega
  rw [e2, Int.add_mul_emod_self_left]
theorem ok_bd {c : IC} (h : impl_areClocks.ok c = true) : 1 ≤ c.f0 ∧ c.f0 ≤ 100000 ∧ 0 ≤ c.f1 ∧ c.f1 ≤ 100000 := by
  unfold impl_areClocks.ok at h
  have := of_decide_eq_true h
  exact ⟨this.1.1, this.1.2, this.2.1, this.2.2⟩
/-- The least common multiple, as far as both tell it. -/
def com : List IC → Nat → Int × Bool
  | [], m => ((m : Int), true)
  | c :: l, m => if ((m / Nat.gcd m c.f0.toNat * c.f0.toNat : Nat) : Int) > 1000000000000 then (0, false) else com l (m / Nat.gcd m c.f0.toNat * c.f0.toNat)
theorem part (m P : Nat) (hm : 1 ≤ m) (hm' : m ≤ 1000000000000) (hP : 1 ≤ P) (hP' : P ≤ 100000) : 1 ≤ Nat.gcd m P ∧ m / Nat.gcd m P ≤ m ∧ 1 ≤ m / Nat.gcd m P ∧ m / Nat.gcd m P * P ≤ 1000000000000 * 100000 ∧ 1 ≤ m / Nat.gcd m P * P := by
  have g0 : 0 < Nat.gcd m P := Nat.gcd_pos_of_pos_left _ (by omega)
  have g1 : Nat.gcd m P ≤ m := Nat.le_of_dvd (by omega) (Nat.gcd_dvd_left _ _)
  have q0 : m / Nat.gcd m P ≤ m := Nat.div_le_self _ _
  have q1 : 0 < m / Nat.gcd m P := Nat.div_pos g1 g0
  exact ⟨g0, q0, q1, Nat.mul_le_mul (by omega) hP', Nat.mul_pos q1 (by omega)⟩
theorem impl_loop : ∀ (l p : List IC) (k m : Nat) (i : Int), i = p.length → (p ++ l).length ≤ 6 → l.all impl_areClocks.ok = true → 1 ≤ m → m ≤ 1000000000000 → 200000 + l.length < k → impl_CommonPeriod.l0 k (m : Int) (p ++ l) (((p ++ l).length : Nat) : Int) i = some (com l m)
  | [], p, k, m, i, hi, hl, _, h1, h2, hk => by
    obtain ⟨k, rfl⟩ : ∃ m, k = m + 1 := ⟨k - 1, by omega⟩
    simp only [impl_CommonPeriod.l0]; rw [if_neg (by simp [hi])]; rfl
  | c :: l, p, k, m, i, hi, hl, ho, h1, h2, hk => by
    obtain ⟨k, rfl⟩ : ∃ m, k = m + 1 := ⟨k - 1, by omega⟩
    simp only [List.length_append, List.length_cons] at hl hk
    simp only [List.all_cons, Bool.and_eq_true] at ho
    obtain ⟨b0, b1, _⟩ := ok_bd ho.1
    obtain ⟨P, hP⟩ := Int.eq_ofNat_of_zero_le (show 0 ≤ c.f0 by omega)
    obtain ⟨g0, g1, g2, g3, g4⟩ := part m P h1 h2 (by omega) (by omega)
    have q : (10000000000000 : Int) ≤ 1000000000000000000 / (P : Int) := by
      rw [Int.le_ediv_iff_mul_le (by omega)]; omega
    have q' : 1000000000000000000 / (P : Int) ≤ 1000000000000000000 := Int.ediv_le_self _ (by omega)
    simp only [impl_CommonPeriod.l0]
    rw [if_pos (by simp [hi]; omega), if_pos (by omega), if_pos (by simp [hi]; omega), rdi p c l i hi, hP]
    unfold impl_lcm.f impl_gcd.f
    rw [impl_gcd_loop P m k (by omega) (by omega) (by omega)]; simp only [Option.bind_some]
    rw [if_neg (by omega), if_neg (by omega), tdiv_cast, Int.tdiv_eq_ediv_of_nonneg (by omega), w64 (x := ((m / Nat.gcd m P : Nat) : Int)) (by omega) (by omega), w64 (x := 1000000000000000000 / (P : Int)) (by omega) (by omega), if_neg (by omega), ← Int.natCast_mul, w64 (by omega) (by omega), w64 (x := i + 1) (by omega) (by omega)]
    simp only [Option.bind_some, if_true]
    have e : com (c :: l) m = if ((m / Nat.gcd m P * P : Nat) : Int) > 1000000000000 then (0, false) else com l (m / Nat.gcd m P * P) := by simp only [com, hP, Int.toNat_natCast]
    rw [e]
    split
    · rfl
    · have h := impl_loop l (p ++ [c]) k (m / Nat.gcd m P * P) (i + 1) (by simp [hi]) (by simp; omega) ho.2 g4 (by omega) (by omega)
      simpa using h
theorem impl_eq (l : List IC) (hl : l.length ≤ 2000000) (k : Nat) (hk : 300000 ≤ k) : impl_CommonPeriod.f k l = some (if all l = true then com l 1 else (0, false)) := by
  unfold impl_CommonPeriod.f
  rw [are_eq]; simp only [Option.bind_some]
  cases h : all l with
  | false => simp
  | true =>
    simp only [if_true]
    have h' := h
    unfold all at h'
    simp only [Bool.and_eq_true, decide_eq_true_eq] at h'
    have := impl_loop l [] k 1 0 rfl (by simp; omega) h'.2 (by omega) (by omega) (by omega)
    rw [List.nil_append] at this
    rw [show ((1 : Nat) : Int) = 1 from rfl] at this
    exact this
/-- The common period, as it is computed. -/
theorem common_eq (p q : Nat) (o u : Int) (k : Nat) (hp : 1 ≤ p) (hp' : p ≤ 100) (hq : 1 ≤ q) (hq' : q ≤ 100) (ho : 0 ≤ o) (ho' : o ≤ 100) (hu : 0 ≤ u) (hu' : u ≤ 100) (hk : 300000 ≤ k) :
    impl_CommonPeriod.f k [⟨p, o⟩, ⟨q, u⟩] = some (((com2 p q : Nat) : Int), true) := by
  obtain ⟨_, _, f3, f4, _⟩ := com2_facts p q hp hq
  have hpq : p * q ≤ 100 * 100 := Nat.mul_le_mul hp' hq'
  have ha : all [⟨p, o⟩, ⟨q, u⟩] = true := by
    unfold all impl_areClocks.ok
    simp; omega
  rw [impl_eq _ (by simp) k hk, ha]
  simp only [if_true]
  have e1 : 1 / Nat.gcd 1 p * p = p := by rw [Nat.gcd_one_left]; omega
  have e2 : p / Nat.gcd p q * q = com2 p q := rfl
  simp only [com, Int.toNat_natCast, e1, e2]
  rw [if_neg (by omega), if_neg (by omega)]
/-- The next edge, as it is computed: how far it is from a moment. -/
theorem next_eq2 (p o m : Int) (hp : 1 ≤ p) (hp' : p ≤ 100) (ho : 0 ≤ o) (ho' : o ≤ 100) (hm : 0 ≤ m) (hm' : m ≤ 100000) :
    impl_NextEdge.f p o m = some (o + eb p o m * p, true) ∧ 0 ≤ o + eb p o m * p - m ∧ p ∣ (o + eb p o m * p - m) - (o - m) ∧ o + eb p o m * p ≤ m + 200 := by
  have h0 := eb_nonneg p o m hp
  have h1 := eb_le p o m hp ho hm
  have hb := mul_bd h0 h1 (by omega : 0 ≤ p) (by omega : p ≤ 100)
  have h3 : 0 ≤ o + eb p o m * p - m ∧ o + eb p o m * p ≤ m + 200 := by
    rcases Int.lt_or_le m o with h | h
    · have : eb p o m = 0 := by unfold eb; rw [if_pos (by omega)]
      rw [this]; omega
    · have := eb_bd p o m hp h
      rw [Int.sub_mul] at this; omega
  refine ⟨?_, h3.1, ⟨eb p o m, by rw [Int.mul_comm]; omega⟩, h3.2⟩
  unfold impl_NextEdge.f
  rw [valid_eq, moment_eq]; simp only [Option.bind_some]
  rw [if_pos (decide_eq_true ⟨⟨hp, by omega⟩, ho, by omega⟩), if_pos (decide_eq_true ⟨hm, by omega⟩), before_eq p o m hp (by omega) ho (by omega) hm (by omega)]
  simp only [Option.bind_some]
  rw [w64 (x := eb p o m * p) (by omega) (by omega), w64 (by omega) (by omega)]
/-- From the offset on, the next edge is less than a period away. -/
theorem next_lt (p o m : Int) (hp : 1 ≤ p) (hm : o ≤ m) : o + eb p o m * p - m < p := by
  have := eb_bd p o m hp hm
  rw [Int.sub_mul] at this; omega
/-- Two numbers from 0 to below d that differ by a multiple of d are one. -/
theorem same {a b d : Int} (ha : 0 ≤ a) (ha' : a < d) (hb : 0 ≤ b) (hb' : b < d) (h : d ∣ a - b) : a = b := by
  obtain ⟨c, hc⟩ := h
  rcases Int.lt_trichotomy c 0 with h1 | h1 | h1
  · have : d * c ≤ d * (-1) := Int.mul_le_mul_of_nonneg_left (by omega) (by omega)
    omega
  · rw [h1] at hc; omega
  · have : d * 1 ≤ d * c := Int.mul_le_mul_of_nonneg_left (by omega) (by omega)
    omega
/-- A number that is not negative and is r modulo d is at least r. -/
theorem at_least {a r d : Int} (ha : 0 ≤ a) (hr' : r < d) (hd : 0 < d) (h : d ∣ a - r) : r ≤ a := by
  obtain ⟨c, hc⟩ := h
  rcases Int.lt_or_le c 0 with h1 | h1
  · have : d * c ≤ d * (-1) := Int.mul_le_mul_of_nonneg_left (by omega) (by omega)
    omega
  · have := Int.mul_nonneg (by omega : 0 ≤ d) h1
    omega
end Near
end Go.Proofs.Ytfoedfigjcmjbaa.L

/- The pure side of FnMeetings: two clocks meet first where both have an edge, and their least gap. No conditions. -/
namespace Go.Proofs.Ytfoedfigjcmjbaa.Pure
set_option linter.unusedVariables false
set_option linter.unusedSimpArgs false
open Go.RowKit Go.Proofs.Ytfoedfigjcmjbaa.A Go.Proofs.Ytfoedfigjcmjbaa.L Go.Proofs.YtfoedfigjcmjbaaW.PrintWords Go.Proofs.YtfoedfigjcmjbaaW.PrintLast Go.Proofs.YtfoedfigjcmjbaaW.PrintMore
namespace Meetings_
open Near Meet FirstMeet
/-- The program's answer is the answer. -/
theorem impl_ans (c e : IC) (k : Nat) (hk : 20000000000000 ≤ k) (ho : L.all [c, e] = true) : ∃ r, impl_FirstMeeting.f k [c, e] = some r ∧ Ans [c, e] (latest [c, e] 0) r := by
  unfold impl_FirstMeeting.f
  rw [are_eq, ho]; simp only [Option.bind_some, if_true]
  unfold L.all at ho
  simp only [Bool.and_eq_true, decide_eq_true_eq] at ho
  have ho := ho.2
  have hlen : [c, e].length ≤ 6 := by simp
  obtain ⟨k2, hk2, e2⟩ := impl_latest [c, e] [] k 0 0 [c, e] rfl hlen rfl (by simp) (by simp; omega)
  rw [List.nil_append] at e2
  have l0 := latest_ge [c, e] 0
  have l1 := latest_le [c, e] 0 (by omega) ho
  have hc := l0.2 c (by simp)
  have hoc : impl_areClocks.ok c = true ∧ [e].all impl_areClocks.ok = true := by simpa using ho
  obtain ⟨b0, b1, b2, b3⟩ := Near.ok_bd hoc.1
  have nd := need_le [e].length (by simp)
  simp only [List.length_cons, List.length_nil] at hk2
  generalize hL : latest [c, e] 0 = lat at *
  have inv1 : Inv c.f1 c.f1 c.f0.toNat [c] := by
    have e0 : ((c.f0.toNat : Nat) : Int) = c.f0 := by omega
    refine ⟨b2, Int.le_refl _, by unfold M; omega, fun x hx => ?_, by omega, fun m a _ hs => ⟨?_, a⟩, fun _ m hm x hx => ?_⟩
    · rw [List.mem_singleton.1 hx]; exact ⟨0, by omega⟩
    · rw [e0]; exact hs c (by simp)
    · rw [List.mem_singleton.1 hx]; rw [e0] at hm; exact hm
  obtain ⟨r2, s2, a2⟩ := impl_loop [c, e] lat c.f1 hc l1 [e] [c] [e] [] c.f1 c.f0.toNat k2 0 rfl rfl rfl (by simp) hoc.2 inv1 (by omega) (by omega)
  refine ⟨r2, ?_, a2⟩
  rw [e2]
  have e0 : ((c.f0.toNat : Nat) : Int) = c.f0 := by omega
  rw [e0] at s2
  exact s2
/-- What is least, moment after moment. -/
def nearOf (p o q u : Int) : Nat → Int → Int → Int
  | 0, _, m => m
  | n + 1, t, m => nearOf p o q u n (t + 1) (
      let m1 := if (o ≤ t ∧ p ∣ t - o) ∧ u + eb q u t * q - t < m then u + eb q u t * q - t else m
      if (u ≤ t ∧ q ∣ t - u) ∧ o + eb p o t * p - t < m1 then o + eb p o t * p - t else m1)
theorem near_spec (p o q u : Int) : ∀ (n : Nat) (t m : Int), nearOf p o q u n t m ≤ m ∧ (∀ x, t ≤ x → x < t + n → o ≤ x → p ∣ x - o → nearOf p o q u n t m ≤ u + eb q u x * q - x) ∧ (∀ x, t ≤ x → x < t + n → u ≤ x → q ∣ x - u → nearOf p o q u n t m ≤ o + eb p o x * p - x) ∧ ∀ B, B ≤ m → (∀ x, t ≤ x → x < t + n → o ≤ x → p ∣ x - o → B ≤ u + eb q u x * q - x) → (∀ x, t ≤ x → x < t + n → u ≤ x → q ∣ x - u → B ≤ o + eb p o x * p - x) → B ≤ nearOf p o q u n t m
  | 0, t, m => ⟨Int.le_refl _, fun x h1 h2 => by omega, fun x h1 h2 => by omega, fun B h _ _ => h⟩
  | n + 1, t, m => by
    have e : nearOf p o q u (n + 1) t m = nearOf p o q u n (t + 1) (
      let m1 := if (o ≤ t ∧ p ∣ t - o) ∧ u + eb q u t * q - t < m then u + eb q u t * q - t else m
      if (u ≤ t ∧ q ∣ t - u) ∧ o + eb p o t * p - t < m1 then o + eb p o t * p - t else m1) := rfl
    rw [e]
    generalize h1 : (if (o ≤ t ∧ p ∣ t - o) ∧ u + eb q u t * q - t < m then u + eb q u t * q - t else m) = m1
    simp only []
    generalize h2 : (if (u ≤ t ∧ q ∣ t - u) ∧ o + eb p o t * p - t < m1 then o + eb p o t * p - t else m1) = m2
    obtain ⟨i1, i2, i3, i4⟩ := near_spec p o q u n (t + 1) m2
    have a1 : m1 ≤ m := by rw [← h1]; split <;> omega
    have a2 : m2 ≤ m1 := by rw [← h2]; split <;> omega
    have a3 : o ≤ t → p ∣ t - o → m1 ≤ u + eb q u t * q - t := fun x y => by
      rw [← h1]; split
      · omega
      · rename_i h; have : ¬ (u + eb q u t * q - t < m) := fun z => h ⟨⟨x, y⟩, z⟩
        omega
    have a4 : u ≤ t → q ∣ t - u → m2 ≤ o + eb p o t * p - t := fun x y => by
      rw [← h2]; split
      · omega
      · rename_i h; have : ¬ (o + eb p o t * p - t < m1) := fun z => h ⟨⟨x, y⟩, z⟩
        omega
    refine ⟨by omega, fun x x1 x2 x3 x4 => ?_, fun x x1 x2 x3 x4 => ?_, fun B hB hx hy => i4 B ?_ (fun x x1 x2 => hx x (by omega) (by omega)) (fun x x1 x2 => hy x (by omega) (by omega))⟩
    · rcases Int.lt_or_le t x with h | h
      · exact i2 x (by omega) (by omega) x3 x4
      · have : x = t := by omega
        subst this
        have := a3 x3 x4; omega
    · rcases Int.lt_or_le t x with h | h
      · exact i3 x (by omega) (by omega) x3 x4
      · have : x = t := by omega
        subst this
        have := a4 x3 x4; omega
    · have b1 : B ≤ m1 := by
        rw [← h1]; split
        · rename_i h; exact hx t (by omega) (by omega) h.1.1 h.1.2
        · exact hB
      rw [← h2]; split
      · rename_i h; exact hy t (by omega) (by omega) h.1.1 h.1.2
      · exact b1
theorem near_eq (p q : Nat) (o u : Int) (hp : 1 ≤ p) (hp' : p ≤ 20) (hq : 1 ≤ q) (hq' : q ≤ 20) (ho : 0 ≤ o) (ho' : o ≤ 40) (hu : 0 ≤ u) (hu' : u ≤ 40) :
    nearOf p o q u 900 0 1000 = mn ((u - o) % ((Nat.gcd p q : Nat) : Int)) ((Nat.gcd p q : Nat) - (u - o) % ((Nat.gcd p q : Nat) : Int)) := by
  obtain ⟨f1, f2, f3, f4, _, _⟩ := com2_facts p q hp hq
  obtain ⟨g1, g2, g3, g4, g5⟩ := gcd_facts p q hp hq
  have hpq : p * q ≤ 20 * 20 := Nat.mul_le_mul hp' hq'
  have c1 := crt p q hp hq o (u - (u - o) % ((Nat.gcd p q : Nat) : Int)) 40
  have c2 := crt p q hp hq (o - ((Nat.gcd p q : Nat) - (u - o) % ((Nat.gcd p q : Nat) : Int))) u 40
  generalize hg : Nat.gcd p q = g at *
  have r0 := Int.emod_nonneg (u - o) (by omega : (g : Int) ≠ 0)
  have r1 := Int.emod_lt_of_pos (u - o) (by omega : (0 : Int) < g)
  have r2 : (g : Int) ∣ (u - o) - (u - o) % (g : Int) := ⟨(u - o) / g, by have := Int.mul_ediv_add_emod (u - o) (g : Int); omega⟩
  generalize (u - o) % (g : Int) = r at *
  obtain ⟨m1, m2, m3, m4⟩ := near_spec p o q u 900 0 1000
  have hB : ∀ x : Int, 0 ≤ x → x < 0 + (900 : Nat) → 0 ≤ u + eb q u x * q - x ∧ (q : Int) ∣ (u + eb q u x * q - x) - (u - x) := fun x x1 x2 => by
    obtain ⟨_, h1, h2, _⟩ := next_eq2 q u x (by omega) (by omega) hu (by omega) (by omega) (by omega)
    exact ⟨h1, h2⟩
  have hA : ∀ x : Int, 0 ≤ x → x < 0 + (900 : Nat) → 0 ≤ o + eb p o x * p - x ∧ (p : Int) ∣ (o + eb p o x * p - x) - (o - x) := fun x x1 x2 => by
    obtain ⟨_, h1, h2, _⟩ := next_eq2 p o x (by omega) (by omega) ho (by omega) (by omega) (by omega)
    exact ⟨h1, h2⟩
  have low : mn r (g - r) ≤ nearOf p o q u 900 0 1000 := by
    refine m4 _ (by unfold mn; split <;> omega) (fun x x1 x2 x3 hx => ?_) (fun x x1 x2 x3 hx => ?_)
    · obtain ⟨w0, w2⟩ := hB x x1 x2
      generalize u + eb q u x * q - x = w at *
      have d3 : (g : Int) ∣ w - r := by
        have := Int.dvd_add (Int.dvd_sub (Int.dvd_trans g5 w2) (Int.dvd_trans g4 hx)) r2
        rw [show w - (u - x) - (x - o) + (u - o - r) = w - r by omega] at this; exact this
      have := at_least w0 r1 (by omega) d3
      unfold mn; split <;> omega
    · obtain ⟨w0, w2⟩ := hA x x1 x2
      generalize o + eb p o x * p - x = w at *
      by_cases hr : r = 0
      · unfold mn; split <;> omega
      have d3 : (g : Int) ∣ w - (g - r) := by
        have := Int.dvd_sub (Int.dvd_sub (Int.dvd_sub (Int.dvd_trans g4 w2) (Int.dvd_trans g5 hx)) r2) (Int.dvd_refl (g : Int))
        rw [show w - (o - x) - (x - u) - (u - o - r) - g = w - (g - r) by omega] at this; exact this
      have := at_least w0 (by omega : g - r < (g : Int)) (by omega) d3
      unfold mn; split <;> omega
  have up1 : nearOf p o q u 900 0 1000 ≤ r := by
    obtain ⟨t, t1, t2, t3, t4⟩ := c1 (by rw [show u - r - o = u - o - r by omega]; exact r2)
    obtain ⟨w0, w2⟩ := hB t (by omega) (by omega)
    have w1 := next_lt q u t (by omega) (by omega)
    have e : u + eb q u t * q - t = r := same w0 w1 r0 (by omega) (by
      have := Int.dvd_sub w2 t4
      rw [show u + eb q u t * q - t - (u - t) - (t - (u - r)) = u + eb q u t * q - t - r by omega] at this; exact this)
    have := m2 t (by omega) (by omega) (by omega) t3
    omega
  have up2 : r ≠ 0 → nearOf p o q u 900 0 1000 ≤ g - r := fun hr => by
    obtain ⟨t, t1, t2, t3, t4⟩ := c2 (by
      have := Int.dvd_add r2 (Int.dvd_refl (g : Int))
      rw [show u - o - r + g = u - (o - (g - r)) by omega] at this; exact this)
    obtain ⟨w0, w2⟩ := hA t (by omega) (by omega)
    have w1 := next_lt p o t (by omega) (by omega)
    have e : o + eb p o t * p - t = g - r := same w0 w1 (by omega) (by omega) (by
      have := Int.dvd_sub w2 t3
      rw [show o + eb p o t * p - t - (o - t) - (t - (o - (g - r))) = o + eb p o t * p - t - (g - r) by omega] at this; exact this)
    have := m3 t (by omega) (by omega) (by omega) t4
    omega
  unfold mn at *
  by_cases hr : r = 0
  · split at low <;> omega
  · have := up2 hr
    split at low <;> omega
/-- What the law asks of each moment. -/
def GoodM (p o q u first L : Int) (one : Bool) : Prop := ∀ t, 0 ≤ t → t < 900 → (((o ≤ t ∧ p ∣ t - o) ∧ (u ≤ t ∧ q ∣ t - u)) ↔ (one = true ∧ first ≤ t ∧ L ∣ t - first))
theorem s6 (first L gap p o q u : Int) (one : Bool) (hp : 1 ≤ p) (hp' : p ≤ 20) (ho : 0 ≤ o) (ho' : o ≤ 40) (k : Nat) (m t : Int) (y : Bool) (h0 : 0 ≤ t) (h1 : t < 900) :
    laws_FnMeetings.j6 (k + 1) first one L gap m t y p o q u = laws_FnMeetings.l0 k first one L gap (if y = true ∧ o + eb p o t * p - t < m then o + eb p o t * p - t else m) (t + 1) p o q u := by
  obtain ⟨e1, e2, _, e3⟩ := next_eq2 p o t hp (by omega) ho (by omega) h0 (by omega)
  simp only [laws_FnMeetings.j6]
  rw [w64 (x := t + 1) (by omega) (by omega)]
  cases y with
  | false => simp
  | true =>
    rw [e1]; simp only [Option.bind_some, if_true, true_and]
    rw [w64 (x := o + eb p o t * p - t) (by omega) (by omega)]
    split <;> rfl
theorem s5 (first L gap p o q u : Int) (one : Bool) (hq : 1 ≤ q) (hq' : q ≤ 20) (hu : 0 ≤ u) (hu' : u ≤ 40) (k : Nat) (m t : Int) (x y : Bool) (h0 : 0 ≤ t) (h1 : t < 900) :
    laws_FnMeetings.j5 (k + 1) first one L gap m t x y false p o q u = laws_FnMeetings.j6 k first one L gap (if x = true ∧ u + eb q u t * q - t < m then u + eb q u t * q - t else m) t y p o q u := by
  obtain ⟨e1, e2, _, e3⟩ := next_eq2 q u t hq (by omega) hu (by omega) h0 (by omega)
  simp only [laws_FnMeetings.j5, Bool.false_eq_true, if_false]
  cases x with
  | false => simp
  | true =>
    rw [e1]; simp only [Option.bind_some, if_true, true_and]
    rw [w64 (x := u + eb q u t * q - t) (by omega) (by omega)]
    split <;> rfl
theorem s43 (first L gap p o q u : Int) (one : Bool) (hL : 1 ≤ L) (hf : 0 ≤ first) (hf' : first ≤ 10000000000000) (hG : GoodM p o q u first L one) (k : Nat) (m t : Int) (x y : Bool) (h0 : 0 ≤ t) (h1 : t < 900) (hx : x = decide (o ≤ t ∧ p ∣ t - o)) (hy : y = decide (u ≤ t ∧ q ∣ t - u)) :
    laws_FnMeetings.j3 (k + 2) first one L gap m t x y p o q u = laws_FnMeetings.j5 k first one L gap m t x y false p o q u := by
  have g := hG t h0 h1
  have gx : x = true ∧ y = true ↔ one = true ∧ first ≤ t ∧ L ∣ t - first := by rw [hx, hy, decide_eq_true_eq, decide_eq_true_eq]; exact g
  clear g hx hy hG
  have c4 : laws_FnMeetings.j4 (k + 1) first one L gap m t x y false p o q u = laws_FnMeetings.j5 k first one L gap m t x y false p o q u := by
    simp only [laws_FnMeetings.j4, Bool.false_eq_true, if_false]
    rw [w64 (x := t - first) (by omega) (by omega)]
    by_cases h : one = true
    · rw [if_pos h, if_neg (by omega)]
      by_cases d : L ∣ t - first
      · rw [if_pos ((Near.tmod_dvd _ _).2 d)]
        by_cases c : t ≥ first
        · obtain ⟨rfl, rfl⟩ := gx.2 ⟨h, c, d⟩
          rw [if_pos c]; simp
        · rw [if_neg c]
      · rw [if_neg (fun z => d ((Near.tmod_dvd _ _).1 z))]
    · rw [if_neg h]
  have c3 : laws_FnMeetings.j3 (k + 2) first one L gap m t x y p o q u = laws_FnMeetings.j4 (k + 1) first one L gap m t x y false p o q u := by
    obtain ⟨K, hK⟩ : ∃ K, k + 1 = K := ⟨_, rfl⟩
    rw [show k + 2 = K + 1 by omega, hK]
    simp only [laws_FnMeetings.j3]
    by_cases h : x = true ∧ y = true
    · obtain ⟨a1, a2, a3⟩ := gx.1 h
      rw [if_pos h.1, if_pos h.2, if_pos a1, if_neg (by omega), if_neg (by omega), w64 (x := t - first) (by omega) (by omega), (Near.tmod_dvd _ _).2 a3]
      rfl
    · by_cases hx : x = true
      · rw [if_pos hx, if_neg (fun z => h ⟨hx, z⟩)]
      · rw [if_neg hx]
  rw [c3, c4]
theorem law_loop (first L gap p o q u : Int) (one : Bool) (hp : 1 ≤ p) (hp' : p ≤ 20) (ho : 0 ≤ o) (ho' : o ≤ 40) (hq : 1 ≤ q) (hq' : q ≤ 20) (hu : 0 ≤ u) (hu' : u ≤ 40) (hL : 1 ≤ L) (hf : 0 ≤ first) (hf' : first ≤ 10000000000000) (hG : GoodM p o q u first L one) : ∀ (n k : Nat) (m t : Int), 0 ≤ t → t + n = 900 → 6 * n + 1 ≤ k →
    laws_FnMeetings.l0 k first one L gap m t p o q u = some (nearOf p o q u n t m == gap)
  | 0, k, m, t, h0, h1, hk => by
    obtain ⟨k, rfl⟩ : ∃ m, k = m + 1 := ⟨k - 1, by omega⟩
    simp only [laws_FnMeetings.l0, nearOf]
    rw [if_neg (by omega)]
  | n + 1, k, m, t, h0, h1, hk => by
    obtain ⟨k, rfl⟩ : ∃ m, k = m + 6 := ⟨k - 6, by omega⟩
    have c0 : laws_FnMeetings.l0 (k + 6) first one L gap m t p o q u = laws_FnMeetings.j2 (k + 5) first one L gap m t (decide (o ≤ t ∧ p ∣ t - o)) p o q u := by
      obtain ⟨K, hK⟩ : ∃ K, k + 5 = K := ⟨_, rfl⟩
      rw [show k + 6 = K + 1 by omega, hK]
      simp only [laws_FnMeetings.l0]
      rw [if_pos (by omega)]
      by_cases c : t ≥ o
      · rw [if_pos c, if_neg (by omega), w64 (x := t - o) (by omega) (by omega)]
        have e : (Int.tmod (t - o) p == 0) = decide (o ≤ t ∧ p ∣ t - o) := by
          rw [Bool.eq_iff_iff, beq_iff_eq, decide_eq_true_eq, Near.tmod_dvd]; exact ⟨fun h => ⟨c, h⟩, fun h => h.2⟩
        rw [e]
      · rw [if_neg c, decide_eq_false (fun h => c h.1)]
    have c1 : ∀ x, laws_FnMeetings.j2 (k + 5) first one L gap m t x p o q u = laws_FnMeetings.j3 (k + 4) first one L gap m t x (decide (u ≤ t ∧ q ∣ t - u)) p o q u := fun x => by
      obtain ⟨K, hK⟩ : ∃ K, k + 4 = K := ⟨_, rfl⟩
      rw [show k + 5 = K + 1 by omega, hK]
      simp only [laws_FnMeetings.j2]
      by_cases c : t ≥ u
      · rw [if_pos c, if_neg (by omega), w64 (x := t - u) (by omega) (by omega)]
        have e : (Int.tmod (t - u) q == 0) = decide (u ≤ t ∧ q ∣ t - u) := by
          rw [Bool.eq_iff_iff, beq_iff_eq, decide_eq_true_eq, Near.tmod_dvd]; exact ⟨fun h => ⟨c, h⟩, fun h => h.2⟩
        rw [e]
      · rw [if_neg c, decide_eq_false (fun h => c h.1)]
    rw [c0, c1, s43 first L gap p o q u one hL hf hf' hG (k + 2) m t _ _ h0 (by omega) rfl rfl, s5 first L gap p o q u one hq hq' hu hu' (k + 1) m t _ _ h0 (by omega), s6 first L gap p o q u one hp hp' ho ho' k _ t _ h0 (by omega)]
    simp only [decide_eq_true_eq]
    rw [law_loop first L gap p o q u one hp hp' ho ho' hq hq' hu hu' hL hf hf' hG n k _ (t + 1) (by omega) (by omega) (by omega)]
    rfl
end Meetings_
open Meetings_ Near Meet FirstMeet

theorem FnMeetings : laws_FnMeetings.Pure := by
  intro l0 l1 _ _ u0 _ _ u1
  obtain ⟨p, o, hc, p1, p2, o1, o2⟩ := clock_eq u0
  obtain ⟨q, u, hc', q1, q2, u1', u2⟩ := clock_eq u1
  obtain ⟨N, hN⟩ : ∃ N : Nat, 20000000000001 ≤ N := ⟨_, Nat.le_refl _⟩
  refine ⟨N + 1, ?_⟩
  unfold laws_FnMeetings.f
  have hlong : ∃ b, laws_r8Long.f l0 l1 = some b := by
    unfold laws_r8Long.f; split <;> exact ⟨_, rfl⟩
  obtain ⟨b, hb⟩ := hlong
  rw [hb]; simp only [Option.bind_some]
  cases b with
  | true => rfl
  | false =>
  simp only [Bool.false_eq_true, if_false]
  rw [hc]; simp only [Option.bind_some]
  rw [hc']; simp only [Option.bind_some]
  obtain ⟨p, rfl⟩ := Int.eq_ofNat_of_zero_le (show 0 ≤ p by omega)
  obtain ⟨q, rfl⟩ := Int.eq_ofNat_of_zero_le (show 0 ≤ q by omega)
  have hp : 1 ≤ p := by omega
  have hq : 1 ≤ q := by omega
  obtain ⟨f1, f2, f3, f4, f5, f6⟩ := com2_facts p q hp hq
  obtain ⟨g1, g2, g3, g4, g5⟩ := gcd_facts p q hp hq
  have hpq : p * q ≤ 20 * 20 := Nat.mul_le_mul (by omega) (by omega)
  have hnear := near_eq p q o u hp (by omega) hq (by omega) o1 (by omega) u1' (by omega)
  have hap := apart_eq p q o u (N + 1) hp (by omega) hq (by omega) o1 (by omega) u1' (by omega) (by omega)
  have hcm := common_eq p q o u (N + 1) hp (by omega) hq (by omega) o1 (by omega) u1' (by omega) (by omega)
  obtain ⟨x, hx, ans⟩ := impl_ans ⟨p, o⟩ ⟨q, u⟩ (N + 1) (by omega) (by unfold L.all impl_areClocks.ok; simp; omega)
  have hcrt := crt p q hp hq o u (latest [(⟨p, o⟩ : IC), ⟨q, u⟩] 0)
  have r0 := Int.emod_nonneg (u - o) (by omega : ((Nat.gcd p q : Nat) : Int) ≠ 0)
  have r1 := Int.emod_lt_of_pos (u - o) (by omega : (0 : Int) < (Nat.gcd p q : Nat))
  have r2 : ((Nat.gcd p q : Nat) : Int) ∣ (u - o) - (u - o) % ((Nat.gcd p q : Nat) : Int) := ⟨(u - o) / (Nat.gcd p q : Nat), by have := Int.mul_ediv_add_emod (u - o) ((Nat.gcd p q : Nat) : Int); omega⟩
  generalize hr : (u - o) % ((Nat.gcd p q : Nat) : Int) = r at *
  have hlg : impl_LeastGap.f (N + 1) p o q u = some (mn r ((Nat.gcd p q : Nat) - r), true) := by
    unfold impl_LeastGap.f
    rw [valid_eq, valid_eq]; simp only [Option.bind_some]
    rw [if_pos (decide_eq_true (by omega)), if_pos (decide_eq_true (by omega)), hap]
    simp only [Option.bind_some]
    rw [w64 (x := (Nat.gcd p q : Nat) - r) (by omega) (by omega)]
  have hgap : (mn r ((Nat.gcd p q : Nat) - r) == 0) = decide (r = 0) := by
    rw [Bool.eq_iff_iff, beq_iff_eq, decide_eq_true_eq]
    unfold mn; split <;> omega
  have hlat : latest [(⟨p, o⟩ : IC), ⟨q, u⟩] 0 = mx (mx 0 o) u := rfl
  have lat0 : o ≤ mx (mx 0 o) u ∧ u ≤ mx (mx 0 o) u ∧ mx (mx 0 o) u ≤ 29 ∧ 0 ≤ mx (mx 0 o) u ∧ ∀ t, o ≤ t → u ≤ t → 0 ≤ t → mx (mx 0 o) u ≤ t := by
    refine ⟨?_, ?_, ?_, ?_, fun t _ _ _ => ?_⟩ <;> (unfold mx; repeat' split) <;> omega
  rw [hlat] at ans hcrt
  generalize mx (mx 0 o) u = lat at *
  have hsol : ∀ m, Sol [(⟨p, o⟩ : IC), ⟨q, u⟩] m ↔ (p : Int) ∣ m - o ∧ (q : Int) ∣ m - u := fun m => by
    unfold Sol; simp
  have hone : x.2 = decide (r = 0) ∧ 0 ≤ x.1 ∧ x.1 ≤ 10000000000000 ∧ GoodM p o q u x.1 (com2 p q) x.2 := by
    rcases ans with ⟨a, rfl, a1, a2, a3, a4⟩ | ⟨rfl, h⟩
    · have a3' := (hsol a).1 a3
      have hr0 : r = 0 := by
        have h := Int.dvd_sub (Int.dvd_sub (Int.dvd_trans g4 a3'.1) (Int.dvd_trans g5 a3'.2)) r2
        rw [show a - o - (a - u) - (u - o - r) = r - 0 by omega] at h
        exact same r0 r1 (Int.le_refl 0) (by omega) h
      unfold M at a2
      refine ⟨(decide_eq_true hr0).symm, by simp only []; omega, by simp only []; omega, fun t t0 t1 => ⟨?_, ?_⟩⟩
      · rintro ⟨⟨b1, b2⟩, b3, b4⟩
        have hm := a4 t (lat0.2.2.2.2 t b1 b3 t0) (by unfold M; omega) ((hsol t).2 ⟨b2, b4⟩)
        refine ⟨rfl, hm, f6 _ ?_ ?_⟩
        · have := Int.dvd_sub b2 a3'.1
          rw [show t - o - (a - o) = t - a by omega] at this; exact this
        · have := Int.dvd_sub b4 a3'.2
          rw [show t - u - (a - u) = t - a by omega] at this; exact this
      · rintro ⟨_, b1, b2⟩
        simp only [] at b1 b2
        refine ⟨⟨by omega, ?_⟩, by omega, ?_⟩
        · have := Int.dvd_add (Int.dvd_trans f1 b2) a3'.1
          rw [show t - a + (a - o) = t - o by omega] at this; exact this
        · have := Int.dvd_add (Int.dvd_trans f2 b2) a3'.2
          rw [show t - a + (a - u) = t - u by omega] at this; exact this
    · have hr0 : ¬ r = 0 := fun hr0 => by
        obtain ⟨t, t1, t2, t3, t4⟩ := hcrt (by rw [hr0] at r2; rw [Int.sub_zero] at r2; exact r2)
        exact h t t1 (by unfold M; omega) ((hsol t).2 ⟨t3, t4⟩)
      refine ⟨(decide_eq_false hr0).symm, by simp, by simp, fun t t0 t1 => ⟨?_, ?_⟩⟩
      · rintro ⟨⟨b1, b2⟩, b3, b4⟩
        exact absurd ((hsol t).2 ⟨b2, b4⟩) (h t (lat0.2.2.2.2 t b1 b3 t0) (by unfold M; omega))
      · rintro ⟨h, _⟩; exact absurd h (by simp)
  obtain ⟨n1, n2, n3, n4⟩ := hone
  rw [hx]; simp only [Option.bind_some]
  rw [hcm]; simp only [Option.bind_some]
  rw [hlg]; simp only [Option.bind_some, if_true]
  rw [hgap, n1, if_neg (by simp), if_neg (by omega), if_pos ((Near.tmod_dvd _ _).2 f1), if_neg (by omega), if_pos ((Near.tmod_dvd _ _).2 f2), if_neg (by omega)]
  rw [← n1, ← Int.natCast_mul, w64 (x := ((p * q : Nat) : Int)) (by omega) (by omega), decide_eq_false (by omega)]
  simp only [laws_FnMeetings.j0, Bool.false_eq_true, if_false]
  rw [law_loop x.1 _ _ p o q u x.2 (by omega) (by omega) o1 (by omega) (by omega) (by omega) u1' (by omega) (by omega) n2 n3 n4 900 N 1000 0 (by omega) (by omega) (by omega), hnear]
  simp

end Go.Proofs.Ytfoedfigjcmjbaa.Pure
