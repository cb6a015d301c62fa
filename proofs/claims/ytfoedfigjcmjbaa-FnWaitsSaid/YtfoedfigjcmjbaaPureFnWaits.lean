import Derived.Test.YtfoedfigjcmjbaaA17
import Derived.Test.YtfoedfigjcmjbaaA18
import Derived.Test.YtfoedfigjcmjbaaA20
import Derived.Test.YtfoedfigjcmjbaaA45
import Derived.Test.YtfoedfigjcmjbaaA13
import Derived.Test.YtfoedfigjcmjbaaA33
import Derived.Test.YtfoedfigjcmjbaaA35
import Derived.Test.YtfoedfigjcmjbaaA53
import Derived.Test.YtfoedfigjcmjbaaA55
import Derived.Test.YtfoedfigjcmjbaaA57
import Derived.Test.YtfoedfigjcmjbaaA59
import Derived.Test.YtfoedfigjcmjbaaA22
import Derived.Test.YtfoedfigjcmjbaaA31
import Derived.Test.YtfoedfigjcmjbaaA52
import Derived.Test.YtfoedfigjcmjbaaA54
import Derived.Test.YtfoedfigjcmjbaaA7
import Derived.Test.YtfoedfigjcmjbaaA30
import Derived.Test.YtfoedfigjcmjbaaA32
/- Plain lemmas on the printed functions of the seat of the clocks: edges, moments, drawn clocks. No conditions. -/
namespace Go.Proofs.Ytfoedfigjcmjbaa.L
set_option linter.unusedVariables false
set_option linter.unusedSimpArgs false
open Go.RowKit Go.Proofs.Ytfoedfigjcmjbaa.A Go.Proofs.YtfoedfigjcmjbaaW.PrintWords Go.Proofs.YtfoedfigjcmjbaaW.PrintLast Go.Proofs.YtfoedfigjcmjbaaW.PrintMore

theorem w64 {x : Int} (h1 : -9223372036854775808 ≤ x) (h2 : x ≤ 9223372036854775807) : wrap64 x = x := by unfold wrap64; omega
theorem wu64 (n : Int) : IntKind.u64.wrap n = n % 18446744073709551616 := by simp [IntKind.wrap, IntKind.bits, IntKind.signed]
theorem and255 (x : Int) (h0 : 0 ≤ x) (h1 : x < 16777216) : bits .and .u64 x 255 = x % 256 :=
  bits_mask .u64 24 (by decide) (fun n a b => by rw [wu64]; simp at b; omega) 8 (by decide) x h0 (by simpa using h1)
theorem tmod_pos (x n : Int) (h0 : 0 ≤ x) : Int.tmod x n = x % n := Int.tmod_eq_emod_of_nonneg h0

theorem within_eq (a b c : Int) : impl_within.f a b c = some (decide (b ≤ a ∧ a ≤ c)) := by
  unfold impl_within.f
  by_cases h : a ≥ b
  · rw [if_pos h]; have h' : b ≤ a := h; simp [h']
  · rw [if_neg h]; have h' : ¬ b ≤ a := h; simp [h']

def U8 (l : List Int) : Prop := ∀ x ∈ l, (Lit.int .u8 x).wf = true
theorem u8_rd {l : List Int} (h : U8 l) (i : Int) : 0 ≤ rd l i ∧ rd l i ≤ 255 := by
  unfold rd
  rw [List.getD_eq_getElem?_getD]
  rcases hq : l[i.toNat]? with _ | x
  · simp
  · have hm := h x (List.mem_of_getElem? hq)
    simp only [Lit.wf, Bool.and_eq_true, decide_eq_true_eq] at hm
    have e1 : IntKind.u8.min = 0 := rfl
    have e2 : IntKind.u8.max = 255 := rfl
    simp only [Option.getD_some]; omega

theorem r8At_eq {l : List Int} (h : U8 l) (k n : Int) (hk : 0 ≤ k) (hn : 1 ≤ n) : ∃ x, laws_r8At.f l k n = some x ∧ 0 ≤ x ∧ x < n := by
  unfold laws_r8At.f
  by_cases h1 : n ≤ 1
  · exact ⟨0, by rw [if_pos h1], by omega, by omega⟩
  · rw [if_neg h1]
    by_cases h2 : k ≥ (l.length : Int)
    · exact ⟨0, by rw [if_pos h2], by omega, by omega⟩
    · have hr := u8_rd h k
      rw [if_neg h2, if_pos hk, if_pos (by omega), if_neg (by omega), w64 (by omega) (by omega), tmod_pos _ _ hr.1]
      exact ⟨_, rfl, Int.emod_nonneg _ (by omega), Int.emod_lt_of_pos _ (by omega)⟩

theorem next_eq {l : List Int} (h : U8 l) (at_ seed : Int) (h0 : 0 ≤ at_) (h1 : at_ ≤ 1000) : ∃ v s, spec_l00Src_next.f l at_ seed = some (v, at_ + 1, s) ∧ 0 ≤ v ∧ v ≤ 255 := by
  unfold spec_l00Src_next.f
  have hr := u8_rd h at_
  have hw : wrap64 (at_ + 1) = at_ + 1 := w64 (by omega) (by omega)
  have hb : ∀ e : Int, 0 ≤ wrap64 (bits .and .u64 ((IntKind.u64.wrap e) / 1099511627776) 255) ∧ wrap64 (bits .and .u64 ((IntKind.u64.wrap e) / 1099511627776) 255) ≤ 255 := by
    intro e
    rw [wu64, and255 _ (by omega) (by omega), w64 (by omega) (by omega)]; omega
  rw [hw]
  by_cases c1 : at_ < (l.length : Int)
  · rw [if_pos c1, if_pos h0]
    split
    · exact ⟨_, _, rfl, by rw [w64 (by omega) (by omega)]; omega, by rw [w64 (by omega) (by omega)]; omega⟩
    · exact ⟨_, _, rfl, (hb _).1, (hb _).2⟩
  · rw [if_neg c1]
    split
    · exact ⟨_, _, rfl, by omega, by omega⟩
    · exact ⟨_, _, rfl, (hb _).1, (hb _).2⟩
theorem pick_eq {l : List Int} (h : U8 l) (at_ seed n : Int) (h0 : 0 ≤ at_) (h1 : at_ ≤ 1000) (hn : 2 ≤ n) (hn' : n ≤ 200) : ∃ v s, spec_l00Src_pick.f l at_ seed n = some (v, at_ + 1, s) ∧ 0 ≤ v ∧ v < n := by
  obtain ⟨v, s, hv, v0, v1⟩ := next_eq h at_ seed h0 h1
  unfold spec_l00Src_pick.f
  rw [if_neg (by omega), hv]; simp only [Option.bind_some]
  rw [if_neg (by omega), if_neg (by omega), tmod_pos _ _ v0]
  exact ⟨_, _, rfl, Int.emod_nonneg _ (by omega), Int.emod_lt_of_pos _ (by omega)⟩
theorem clock_eq {l : List Int} (h : U8 l) : ∃ p o, spec_R8Clock.f l = some (p, o) ∧ 1 ≤ p ∧ p ≤ 20 ∧ 0 ≤ o ∧ o ≤ 29 := by
  obtain ⟨x, s, hx, x0, x1⟩ := pick_eq h 0 0 20 (by omega) (by omega) (by omega) (by omega)
  obtain ⟨y, s', hy, y0, y1⟩ := pick_eq h (0 + 1) s 30 (by omega) (by omega) (by omega) (by omega)
  unfold spec_R8Clock.f spec_l00From.f
  simp only [Option.bind_some]
  rw [hx]; simp only [Option.bind_some]
  rw [hy]; simp only [Option.bind_some]
  rw [w64 (by omega) (by omega)]
  exact ⟨_, _, rfl, by omega, by omega, by omega, by omega⟩

theorem valid_eq (p o : Int) : impl_ValidClock.f p o = some (decide ((1 ≤ p ∧ p ≤ 100000) ∧ (0 ≤ o ∧ o ≤ 100000))) := by
  unfold impl_ValidClock.f
  rw [within_eq, within_eq]; simp only [Option.bind_some]
  by_cases h : 1 ≤ p ∧ p ≤ 100000 <;> by_cases k : 0 ≤ o ∧ o ≤ 100000 <;> simp [h, k]
theorem moment_eq (m : Int) : impl_isMoment.f m = some (decide (0 ≤ m ∧ m ≤ 1000000000000)) := by
  unfold impl_isMoment.f; rw [within_eq]; rfl
theorem mul_bd {a b A B : Int} (a0 : 0 ≤ a) (a1 : a ≤ A) (b0 : 0 ≤ b) (b1 : b ≤ B) : 0 ≤ a * b ∧ a * b ≤ A * B :=
  ⟨Int.mul_nonneg a0 b0, Int.mul_le_mul a1 b1 b0 (by omega)⟩
theorem edge_eq (p o i : Int) (hp : 1 ≤ p) (hp' : p ≤ 100000) (ho : 0 ≤ o) (ho' : o ≤ 100000) (hi : 0 ≤ i) (hi' : i ≤ 1000000000000) (hm : o + i * p ≤ 1000000000000) : impl_EdgeAt.f p o i = some (o + i * p, true) := by
  have hb := mul_bd hi hi' (by omega : 0 ≤ p) hp'
  unfold impl_EdgeAt.f
  rw [valid_eq, moment_eq, w64 (x := i * p) (by omega) (by omega), w64 (by omega) (by omega), moment_eq]
  simp only [Option.bind_some]
  rw [if_pos (decide_eq_true ⟨⟨hp, hp'⟩, ho, ho'⟩), if_pos (decide_eq_true ⟨hi, hi'⟩), if_pos (decide_eq_true ⟨by omega, hm⟩)]

/-- How many edges there are before a moment. -/
def eb (p o m : Int) : Int := if m ≤ o then 0 else (m - o + p - 1) / p
theorem eb_nonneg (p o m : Int) (hp : 1 ≤ p) : 0 ≤ eb p o m := by
  unfold eb; split
  · omega
  · exact Int.ediv_nonneg (by omega) (by omega)
theorem eb_lt (p o m : Int) (hp : 1 ≤ p) (k : Int) (hk : 0 ≤ k) : k < eb p o m ↔ o + k * p < m := by
  have hkp := Int.mul_nonneg hk (by omega : (0:Int) ≤ p)
  unfold eb; split
  · rename_i h; constructor
    · intro h'; omega
    · intro h'; omega
  · rename_i h
    have h1 : k < (m - o + p - 1) / p ↔ (k + 1) * p ≤ m - o + p - 1 := Int.add_one_le_iff.symm.trans (Int.le_ediv_iff_mul_le (by omega))
    rw [h1, Int.add_mul]; omega
theorem eb_bd (p o m : Int) (hp : 1 ≤ p) (ho : o ≤ m) : (eb p o m - 1) * p < m - o ∧ m - o ≤ eb p o m * p := by
  have h0 := eb_nonneg p o m hp
  have h1 := eb_lt p o m hp (eb p o m) h0
  constructor
  · rcases Int.lt_or_le 0 (eb p o m) with h | h
    · have := (eb_lt p o m hp (eb p o m - 1) (by omega)).mp (by omega); omega
    · have e : eb p o m = 0 := by omega
      rw [e]; omega
  · have : ¬ (o + eb p o m * p < m) := fun h => by have := h1.mpr h; omega
    omega
theorem before_eq (p o m : Int) (hp : 1 ≤ p) (hp' : p ≤ 100000) (ho : 0 ≤ o) (ho' : o ≤ 100000) (hm : 0 ≤ m) (hm' : m ≤ 1000000000000) : impl_Clock_edgesBefore.f p o m = some (eb p o m) := by
  unfold impl_Clock_edgesBefore.f eb
  rw [if_neg (by omega), w64 (x := m - o) (by omega) (by omega), w64 (x := m - o + p) (by omega) (by omega), w64 (x := m - o + p - 1) (by omega) (by omega)]
  congr 1
  by_cases h : m ≤ o
  · rw [if_pos h]
    by_cases k : 0 ≤ m - o + p - 1
    · rw [Int.tdiv_eq_ediv_of_nonneg k, Int.ediv_eq_zero_of_lt k (by omega), w64 (by omega) (by omega)]; unfold mx; split <;> omega
    · have : Int.tdiv (m - o + p - 1) p = - (Int.tdiv (-(m - o + p - 1)) p) := by rw [Int.neg_tdiv]; omega
      rw [this, Int.tdiv_eq_ediv_of_nonneg (by omega)]
      have h0 : 0 ≤ (-(m - o + p - 1)) / p := Int.ediv_nonneg (by omega) (by omega)
      have h1 : (-(m - o + p - 1)) / p ≤ -(m - o + p - 1) := Int.ediv_le_self _ (by omega)
      rw [w64 (by omega) (by omega)]
      unfold mx; split <;> omega
  · rw [if_neg h, Int.tdiv_eq_ediv_of_nonneg (by omega)]
    have h0 : 0 ≤ (m - o + p - 1) / p := Int.ediv_nonneg (by omega) (by omega)
    have h1 : (m - o + p - 1) / p ≤ m - o + p - 1 := Int.ediv_le_self _ (by omega)
    rw [w64 (by omega) (by omega)]
    unfold mx; split <;> omega
theorem eb_le (p o m : Int) (hp : 1 ≤ p) (ho : 0 ≤ o) (hm : 0 ≤ m) : eb p o m ≤ m := by
  rcases Int.lt_or_le m (eb p o m) with h | h
  · have := (eb_lt p o m hp m hm).mp h
    have : m * 1 ≤ m * p := Int.mul_le_mul_of_nonneg_left hp hm
    omega
  · exact h
theorem eb_mono (p o m m' : Int) (hp : 1 ≤ p) (h : m ≤ m') : eb p o m ≤ eb p o m' := by
  rcases Int.lt_or_le (eb p o m') (eb p o m) with k | k
  · have h0 := eb_nonneg p o m' hp
    have := (eb_lt p o m hp _ h0).mp k
    have := (eb_lt p o m' hp _ h0).mpr (by omega)
    omega
  · exact k
end Go.Proofs.Ytfoedfigjcmjbaa.L

/- Lists of clocks: copies, equality, validity; and greatest common divisors, of the program and of the reference. No conditions. -/
namespace Go.Proofs.Ytfoedfigjcmjbaa.L
set_option linter.unusedVariables false
set_option linter.unusedSimpArgs false
open Go.RowKit Go.Proofs.Ytfoedfigjcmjbaa.A Go.Proofs.YtfoedfigjcmjbaaW.PrintWords Go.Proofs.YtfoedfigjcmjbaaW.PrintLast Go.Proofs.YtfoedfigjcmjbaaW.PrintMore
theorem in_eq (a b c : Int) : spec_l00In.f a b c = some (decide (b ≤ a ∧ a ≤ c)) := by
  unfold spec_l00In.f
  by_cases h : a ≥ b
  · rw [if_pos h]; have h' : b ≤ a := h; simp [h']
  · rw [if_neg h]; have h' : ¬ b ≤ a := h; simp [h']
theorem is_eq (p o : Int) : spec_l10Is.f p o = impl_ValidClock.f p o := by
  rw [valid_eq]; unfold spec_l10Is.f
  rw [in_eq, in_eq]; simp only [Option.bind_some]
  by_cases h : 1 ≤ p ∧ p ≤ 100000 <;> by_cases k : 0 ≤ o ∧ o ≤ 100000 <;> simp [h, k]
/-- The copy of a clock. -/
def conv (c : S43) : S31 := ⟨c.f0, c.f1⟩
abbrev IC := S31
abbrev LC := S43
theorem rdi (p : List IC) (x : IC) (l : List IC) (i : Int) (h : i = p.length) : rd_T31 (p ++ x :: l) i = x := by subst h; simp [rd_T31]
theorem rdl (p : List LC) (x : LC) (l : List LC) (i : Int) (h : i = p.length) : rd_T43 (p ++ x :: l) i = x := by subst h; simp [rd_T43]
theorem conv_loop : ∀ (l p : List LC) (k : Nat) (q r : List IC) (i : Int), i = p.length → q.length = p.length → r.length = l.length → l.length < k → (p ++ l).length ≤ 2000000 →
    laws_toClockS.l0 k (p ++ l) (q ++ r) i = some (q ++ l.map conv)
  | [], p, k, q, r, i, hi, hq, hr, hk, hl => by
    obtain ⟨k, rfl⟩ : ∃ m, k = m + 1 := ⟨k - 1, by omega⟩
    have : r = [] := List.eq_nil_of_length_eq_zero hr
    subst this
    simp only [laws_toClockS.l0]; rw [if_neg (by simp [hi])]; simp
  | x :: l, p, k, q, r, i, hi, hq, hr, hk, hl => by
    obtain ⟨k, rfl⟩ : ∃ m, k = m + 1 := ⟨k - 1, by omega⟩
    simp only [List.length_append, List.length_cons] at hl hk hr
    cases r with
    | nil => simp at hr
    | cons y r =>
    simp only [List.length_cons] at hr
    simp only [laws_toClockS.l0, laws_toClock.f, Option.bind_some]
    have e : (q ++ y :: r).set (i : Int).toNat (⟨x.f0, x.f1⟩ : IC) = q ++ conv x :: r := by
      have : i.toNat = q.length := by omega
      rw [this]; simp [conv]
    rw [if_pos (by simp [hi]; omega), if_pos (by omega), if_pos (by simp; omega), rdl p x l i hi, e, w64 (x := i + 1) (by omega) (by omega)]
    have h := conv_loop l (p ++ [x]) k (q ++ [conv x]) r (i + 1) (by simp [hi]) (by simp [hq]) (by omega) (by omega) (by simp; omega)
    simp only [List.append_assoc, List.singleton_append] at h
    rw [h]; simp
theorem conv_eq (l : List LC) (hl : l.length ≤ 1048576) (k : Nat) (hk : l.length < k) : laws_toClockS.f k l = some (l.map conv) := by
  unfold laws_toClockS.f
  rw [if_pos (by omega), if_pos (by simp; omega)]
  have := conv_loop l [] k [] (List.replicate ((l.length : Int) : Int).toNat z31) 0 rfl rfl (by simp) hk (by simp; omega)
  rw [List.nil_append, List.nil_append, List.nil_append] at this
  exact this
theorem sz_eq (l : List LC) (hl : l.length ≤ maxLen) : ∃ r, laws_szClockS.f l 1048576 = some r ∧ (r < 0 ∨ l.length ≤ 1048576) := by
  unfold laws_szClockS.f
  have : maxLen = 9223372036854775807 := rfl
  rw [w64 (by omega) (by omega)]
  split
  · exact ⟨_, rfl, .inl (by omega)⟩
  · exact ⟨_, rfl, .inr (by omega)⟩
theorem eqc_loop : ∀ (l p : List IC) (k : Nat) (i : Int), i = p.length → l.length < k → (p ++ l).length ≤ 2000000 → laws_eqClockS.l0 k (p ++ l) (p ++ l) i = some true
  | [], p, k, i, hi, hk, hl => by
    obtain ⟨k, rfl⟩ : ∃ m, k = m + 1 := ⟨k - 1, by omega⟩
    simp only [laws_eqClockS.l0]; rw [if_neg (by simp [hi])]
  | x :: l, p, k, i, hi, hk, hl => by
    obtain ⟨k, rfl⟩ : ∃ m, k = m + 1 := ⟨k - 1, by omega⟩
    simp only [List.length_append, List.length_cons] at hl hk
    simp only [laws_eqClockS.l0]
    have he : ∀ y : IC, laws_eqClock.f y.f0 y.f1 y.f0 y.f1 = some true := fun y => by simp [laws_eqClock.f]
    rw [if_pos (by simp [hi]; omega), if_pos (by omega), if_pos (by simp [hi]; omega), he]
    simp only [Option.bind_some, if_true]
    rw [w64 (x := i + 1) (by omega) (by omega)]
    have h := eqc_loop l (p ++ [x]) k (i + 1) (by simp [hi]) (by omega) (by simp; omega)
    simpa using h
theorem eqc_self (l : List IC) (hl : l.length ≤ 2000000) (k : Nat) (hk : l.length < k) : laws_eqClockS.f k l l = some true := by
  unfold laws_eqClockS.f; rw [if_pos rfl]
  have := eqc_loop l [] k 0 rfl hk (by simpa using hl)
  simpa using this
/-- Are there 1 to 6 valid clocks. -/
def all (l : List IC) : Bool := decide (1 ≤ (l.length : Int) ∧ (l.length : Int) ≤ 6) && l.all impl_areClocks.ok
theorem are_eq (l : List IC) : impl_areClocks.f l = some (all l) := rfl
theorem ok_eq (c : IC) : spec_l10Is.f c.f0 c.f1 = some (impl_areClocks.ok c) := by rw [is_eq, valid_eq]; rfl
theorem all_loop : ∀ (l p : List IC) (k : Nat) (i : Int), i = p.length → (p ++ l).length ≤ 6 → 1 ≤ (p ++ l).length → 2 * l.length + 1 < k → spec_l10All.l0 k (p ++ l) i = some (l.all impl_areClocks.ok)
  | [], p, k, i, hi, hl, h1, hk => by
    obtain ⟨k, rfl⟩ : ∃ m, k = m + 1 + 1 := ⟨k - 2, by simp at hk; omega⟩
    simp only [spec_l10All.l0, spec_l10All.j1]; rw [if_neg (by simp [hi]), if_neg (by simp), in_eq]
    simp only [Option.bind_some]
    rw [decide_eq_true (by omega)]; rfl
  | x :: l, p, k, i, hi, hl, h1, hk => by
    obtain ⟨k, rfl⟩ : ∃ m, k = m + 1 + 1 := ⟨k - 2, by simp at hk; omega⟩
    simp only [List.length_append, List.length_cons] at hl hk
    simp only [spec_l10All.l0, spec_l10All.j1]
    rw [if_pos (by simp [hi]; omega), if_pos (by simp; omega), if_pos (by omega), if_pos (by simp [hi]; omega), rdi p x l i hi, ok_eq]
    simp only [Option.bind_some]
    cases hx : impl_areClocks.ok x with
    | true =>
      simp only [if_true]
      rw [w64 (x := i + 1) (by omega) (by omega)]
      have h := all_loop l (p ++ [x]) k (i + 1) (by simp [hi]) (by simp; omega) (by simp; omega) (by omega)
      simp only [List.append_assoc, List.singleton_append] at h
      rw [h]; simp [hx]
    | false => simp [hx]
theorem all_eq (l : List IC) (hl : l.length ≤ 2000000) (k : Nat) (hk : 20 ≤ k) : spec_l10All.f k l = some (all l) := by
  unfold spec_l10All.f all
  by_cases h : 1 ≤ l.length ∧ l.length ≤ 6
  · have := all_loop l [] k 0 rfl (by simpa using h.2) (by simpa using h.1) (by omega)
    rw [List.nil_append] at this
    rw [this, decide_eq_true (by omega)]; simp
  · obtain ⟨k, rfl⟩ : ∃ m, k = m + 1 + 1 := ⟨k - 2, by omega⟩
    simp only [spec_l10All.l0, spec_l10All.j1]
    have hf : decide (1 ≤ (l.length : Int) ∧ (l.length : Int) ≤ 6) = false := decide_eq_false (by omega)
    split
    · rw [if_neg (by simp; omega), in_eq, hf]; rfl
    · rw [if_neg (by simp), in_eq, hf]; rfl
/-- Greatest common divisors. -/
theorem tmod_cast (a b : Nat) : Int.tmod (a : Int) (b : Int) = ((a % b : Nat) : Int) := by
  rw [Int.tmod_eq_emod_of_nonneg (by omega)]; exact (Int.natCast_emod a b).symm
theorem gcd_step (a b : Nat) : Nat.gcd b (a % b) = Nat.gcd a b := by
  rw [Nat.gcd_comm b, ← Nat.gcd_rec, Nat.gcd_comm]
theorem impl_gcd_loop : ∀ (b a k : Nat), b < k → a ≤ 9223372036854775807 → b ≤ 9223372036854775807 → impl_gcd.l0 k (a : Int) (b : Int) = some ((Nat.gcd a b : Nat) : Int) := by
  intro b
  induction b using Nat.strongRecOn with
  | _ b ih =>
  intro a k hk ha hb
  obtain ⟨k, rfl⟩ : ∃ m, k = m + 1 := ⟨k - 1, by omega⟩
  simp only [impl_gcd.l0]
  by_cases h : (b : Int) = 0
  · rw [if_pos h]
    have h0 : b = 0 := by omega
    subst h0
    rw [Nat.gcd_zero_right, w64 (by omega) (by omega)]
    unfold mx; split
    · congr 1; omega
    · rfl
  · have hlt : a % b < b := Nat.mod_lt _ (by omega)
    rw [if_neg h, tmod_cast, ih (a % b) hlt b k (by omega) hb (by omega), gcd_step]
theorem spec_gcd_loop : ∀ (b a k : Nat), b < k → spec_l01Gcd.l0 k (a : Int) (b : Int) = some ((Nat.gcd a b : Nat) : Int) := by
  intro b
  induction b using Nat.strongRecOn with
  | _ b ih =>
  intro a k hk
  obtain ⟨k, rfl⟩ : ∃ m, k = m + 1 := ⟨k - 1, by omega⟩
  simp only [spec_l01Gcd.l0]
  by_cases h : (b : Int) > 0
  · rw [if_pos h, if_neg (by omega), tmod_cast, ih (a % b) (Nat.mod_lt _ (by omega)) b k (by have := Nat.mod_lt a (show b > 0 by omega); omega), gcd_step]
  · have h0 : b = 0 := by omega
    subst h0
    rw [if_neg h, Nat.gcd_zero_right]
end Go.Proofs.Ytfoedfigjcmjbaa.L

/- Two clocks: the common period, how far apart they are, moments that both ask for, and sums over ranges. No conditions. -/
namespace Go.Proofs.Ytfoedfigjcmjbaa.L
set_option linter.unusedVariables false
set_option linter.unusedSimpArgs false
open Go.RowKit Go.Proofs.Ytfoedfigjcmjbaa.A Go.Proofs.YtfoedfigjcmjbaaW.PrintWords Go.Proofs.YtfoedfigjcmjbaaW.PrintLast Go.Proofs.YtfoedfigjcmjbaaW.PrintMore
namespace Near
theorem bez (a b : Nat) : ∃ x y : Int, a * x + b * y = (Nat.gcd a b : Nat) := by
  induction a, b using Nat.gcd.induction with
  | H0 n => exact ⟨0, 1, by simp⟩
  | H1 m n hm ih =>
    obtain ⟨x, y, h⟩ := ih
    refine ⟨y - (n / m : Nat) * x, x, ?_⟩
    have e : ((n % m : Nat) : Int) = n - m * (n / m : Nat) := by
      have := Nat.div_add_mod n m
      have h2 : ((m * (n / m) + n % m : Nat) : Int) = (n : Nat) := by rw [this]
      rw [Int.natCast_add, Int.natCast_mul] at h2; omega
    rw [Nat.gcd_rec m n, ← h, e, Int.mul_sub, Int.sub_mul]
    have : (m : Int) * ((n / m : Nat) * x) = m * (n / m : Nat) * x := (Int.mul_assoc _ _ _).symm
    rw [this]; omega
/-- The common period of two. -/
def com2 (p q : Nat) : Nat := p / Nat.gcd p q * q
theorem com2_facts (p q : Nat) (hp : 1 ≤ p) (hq : 1 ≤ q) : (p : Int) ∣ com2 p q ∧ (q : Int) ∣ com2 p q ∧ 1 ≤ com2 p q ∧ com2 p q ≤ p * q ∧ com2 p q / q = p / Nat.gcd p q ∧ ∀ x : Int, (p : Int) ∣ x → (q : Int) ∣ x → ((com2 p q : Nat) : Int) ∣ x := by
  have hg : Nat.gcd p q ∣ p := Nat.gcd_dvd_left _ _
  have e : com2 p q = Nat.lcm p q := by
    unfold com2 Nat.lcm; rw [Nat.div_mul_right_comm hg]
  refine ⟨?_, ?_, ?_, ?_, ?_, fun x h1 h2 => ?_⟩
  · rw [e, Int.ofNat_dvd]; exact Nat.dvd_lcm_left _ _
  · rw [e, Int.ofNat_dvd]; exact Nat.dvd_lcm_right _ _
  · rw [e]; exact Nat.lcm_pos (by omega) (by omega)
  · unfold com2; exact Nat.mul_le_mul (Nat.div_le_self _ _) (Nat.le_refl _)
  · unfold com2; exact Nat.mul_div_cancel _ (by omega)
  · rw [e]; rw [Int.ofNat_dvd_left] at h1 h2 ⊢
    exact Nat.lcm_dvd h1 h2
/-- Both can be asked for at once, in whatever window of a common period's length, if their difference is a multiple of the greatest common divisor. -/
theorem crt (p q : Nat) (hp : 1 ≤ p) (hq : 1 ≤ q) (o w lo : Int) (h : ((Nat.gcd p q : Nat) : Int) ∣ w - o) : ∃ t, lo ≤ t ∧ t < lo + com2 p q ∧ (p : Int) ∣ t - o ∧ (q : Int) ∣ t - w := by
  obtain ⟨f1, f2, f3, _⟩ := com2_facts p q hp hq
  obtain ⟨x, y, hb⟩ := bez p q
  obtain ⟨s, hs⟩ := h
  have hL : (1 : Int) ≤ com2 p q := by omega
  generalize ((com2 p q : Nat) : Int) = C at *
  have e0 := Int.emod_nonneg (o + p * x * s - lo) (by omega : C ≠ 0)
  have e1 := Int.emod_lt_of_pos (o + p * x * s - lo) (by omega : 0 < C)
  have e2 := Int.mul_ediv_add_emod (o + p * x * s - lo) C
  have hC : C ∣ lo + (o + p * x * s - lo) % C - (o + p * x * s) := ⟨-((o + p * x * s - lo) / C), by rw [Int.mul_neg]; omega⟩
  refine ⟨lo + (o + p * x * s - lo) % C, by omega, by omega, ?_, ?_⟩
  · have h1 := Int.dvd_trans f1 hC
    have h2 : (p : Int) ∣ p * x * s := ⟨x * s, Int.mul_assoc _ _ _⟩
    have := Int.dvd_add h1 h2
    have e : lo + (o + p * x * s - lo) % C - (o + p * x * s) + p * x * s = lo + (o + p * x * s - lo) % C - o := by omega
    rw [e] at this; exact this
  · have h1 := Int.dvd_trans f2 hC
    have h2 : (q : Int) ∣ q * y * s := ⟨y * s, Int.mul_assoc _ _ _⟩
    have e3 : p * x * s + q * y * s = w - o := by rw [hs, ← hb, Int.add_mul]
    have := Int.dvd_sub h1 h2
    have e : lo + (o + p * x * s - lo) % C - (o + p * x * s) - q * y * s = lo + (o + p * x * s - lo) % C - w := by omega
    rw [e] at this; exact this
theorem gcd_facts (p q : Nat) (hp : 1 ≤ p) (hq : 1 ≤ q) : 1 ≤ Nat.gcd p q ∧ Nat.gcd p q ≤ p ∧ Nat.gcd p q ≤ q ∧ ((Nat.gcd p q : Nat) : Int) ∣ p ∧ ((Nat.gcd p q : Nat) : Int) ∣ q :=
  ⟨Nat.gcd_pos_of_pos_left _ (by omega), Nat.gcd_le_left _ (by omega), Nat.gcd_le_right _ (by omega), Int.ofNat_dvd.2 (Nat.gcd_dvd_left _ _), Int.ofNat_dvd.2 (Nat.gcd_dvd_right _ _)⟩
theorem tmod_dvd (a b : Int) : Int.tmod a b = 0 ↔ b ∣ a := ⟨Int.dvd_of_tmod_eq_zero, Int.tmod_eq_zero_of_dvd⟩
theorem tdiv_cast (a b : Nat) : Int.tdiv (a : Int) (b : Int) = ((a / b : Nat) : Int) := by
  rw [Int.tdiv_eq_ediv_of_nonneg (by omega)]; exact (Int.natCast_ediv a b).symm
/-- How far the clocks are apart, as it is computed. -/
theorem apart_eq (p q : Nat) (o u : Int) (k : Nat) (hp : 1 ≤ p) (hp' : p ≤ 100) (hq : 1 ≤ q) (hq' : q ≤ 100) (ho : 0 ≤ o) (ho' : o ≤ 100) (hu : 0 ≤ u) (hu' : u ≤ 100) (hk : 1000 ≤ k) :
    impl_apart.f k p o q u = some (((Nat.gcd p q : Nat) : Int), (u - o) % ((Nat.gcd p q : Nat) : Int)) := by
  obtain ⟨g1, g2, g3, _⟩ := gcd_facts p q hp hq
  unfold impl_apart.f impl_gcd.f
  rw [impl_gcd_loop q p k (by omega) (by omega) (by omega)]; simp only [Option.bind_some]
  rw [if_neg (by omega), w64 (x := u - o) (by omega) (by omega)]
  generalize hg : Nat.gcd p q = g at *
  have b1 : -(g : Int) < Int.tmod (u - o) g := by
    rcases Int.lt_or_le (u - o) 0 with h | h
    · have e := Int.neg_tmod (-(u - o)) (g : Int)
      rw [show -(-(u - o)) = u - o by omega] at e
      have := Int.tmod_lt_of_pos (-(u - o)) (by omega : (0 : Int) < g)
      omega
    · have := Int.tmod_nonneg (g : Int) h; omega
  have b2 := Int.tmod_lt_of_pos (u - o) (by omega : (0 : Int) < g)
  rw [w64 (by omega) (by omega), tmod_pos _ _ (by omega), Int.add_emod_right]
  congr 2
  have e := Int.mul_tdiv_add_tmod (u - o) (g : Int)
  have e2 : Int.tmod (u - o) g = u - o + g * (-(Int.tdiv (u - o) g)) := by rw [Int.mul_neg]; omega
  rw [e2, Int.add_mul_emod_self_left]
theorem ok_bd {c : IC} (h : impl_areClocks.ok c = true) : 1 ≤ c.f0 ∧ c.f0 ≤ 100000 ∧ 0 ≤ c.f1 ∧ c.f1 ≤ 100000 := by
  unfold impl_areClocks.ok at h
  have := of_decide_eq_true h
  exact ⟨this.1.1, this.1.2, this.2.1, this.2.2⟩
/-- The least common multiple, as far as both tell it. -/
def com : List IC → Nat → Int × Bool
  | [], m => ((m : Int), true)
  | c :: l, m => if ((m / Nat.gcd m c.f0.toNat * c.f0.toNat : Nat) : Int) > 1000000000000 then (0, false) else com l (m / Nat.gcd m c.f0.toNat * c.f0.toNat)
theorem part (m P : Nat) (hm : 1 ≤ m) (hm' : m ≤ 1000000000000) (hP : 1 ≤ P) (hP' : P ≤ 100000) : 1 ≤ Nat.gcd m P ∧ m / Nat.gcd m P ≤ m ∧ 1 ≤ m / Nat.gcd m P ∧ m / Nat.gcd m P * P ≤ 1000000000000 * 100000 ∧ 1 ≤ m / Nat.gcd m P * P := by
  have g0 : 0 < Nat.gcd m P := Nat.gcd_pos_of_pos_left _ (by omega)
  have g1 : Nat.gcd m P ≤ m := Nat.le_of_dvd (by omega) (Nat.gcd_dvd_left _ _)
  have q0 : m / Nat.gcd m P ≤ m := Nat.div_le_self _ _
  have q1 : 0 < m / Nat.gcd m P := Nat.div_pos g1 g0
  exact ⟨g0, q0, q1, Nat.mul_le_mul (by omega) hP', Nat.mul_pos q1 (by omega)⟩
theorem impl_loop : ∀ (l p : List IC) (k m : Nat) (i : Int), i = p.length → (p ++ l).length ≤ 6 → l.all impl_areClocks.ok = true → 1 ≤ m → m ≤ 1000000000000 → 200000 + l.length < k → impl_CommonPeriod.l0 k (m : Int) (p ++ l) (((p ++ l).length : Nat) : Int) i = some (com l m)
  | [], p, k, m, i, hi, hl, _, h1, h2, hk => by
    obtain ⟨k, rfl⟩ : ∃ m, k = m + 1 := ⟨k - 1, by omega⟩
    simp only [impl_CommonPeriod.l0]; rw [if_neg (by simp [hi])]; rfl
  | c :: l, p, k, m, i, hi, hl, ho, h1, h2, hk => by
    obtain ⟨k, rfl⟩ : ∃ m, k = m + 1 := ⟨k - 1, by omega⟩
    simp only [List.length_append, List.length_cons] at hl hk
    simp only [List.all_cons, Bool.and_eq_true] at ho
    obtain ⟨b0, b1, _⟩ := ok_bd ho.1
    obtain ⟨P, hP⟩ := Int.eq_ofNat_of_zero_le (show 0 ≤ c.f0 by omega)
    obtain ⟨g0, g1, g2, g3, g4⟩ := part m P h1 h2 (by omega) (by omega)
    have q : (10000000000000 : Int) ≤ 1000000000000000000 / (P : Int) := by
      rw [Int.le_ediv_iff_mul_le (by omega)]; omega
    have q' : 1000000000000000000 / (P : Int) ≤ 1000000000000000000 := Int.ediv_le_self _ (by omega)
    simp only [impl_CommonPeriod.l0]
    rw [if_pos (by simp [hi]; omega), if_pos (by omega), if_pos (by simp [hi]; omega), rdi p c l i hi, hP]
    unfold impl_lcm.f impl_gcd.f
    rw [impl_gcd_loop P m k (by omega) (by omega) (by omega)]; simp only [Option.bind_some]
    rw [if_neg (by omega), if_neg (by omega), tdiv_cast, Int.tdiv_eq_ediv_of_nonneg (by omega), w64 (x := ((m / Nat.gcd m P : Nat) : Int)) (by omega) (by omega), w64 (x := 1000000000000000000 / (P : Int)) (by omega) (by omega), if_neg (by omega), ← Int.natCast_mul, w64 (by omega) (by omega), w64 (x := i + 1) (by omega) (by omega)]
    simp only [Option.bind_some, if_true]
    have e : com (c :: l) m = if ((m / Nat.gcd m P * P : Nat) : Int) > 1000000000000 then (0, false) else com l (m / Nat.gcd m P * P) := by simp only [com, hP, Int.toNat_natCast]
    rw [e]
    split
    · rfl
    · have h := impl_loop l (p ++ [c]) k (m / Nat.gcd m P * P) (i + 1) (by simp [hi]) (by simp; omega) ho.2 g4 (by omega) (by omega)
      simpa using h
theorem impl_eq (l : List IC) (hl : l.length ≤ 2000000) (k : Nat) (hk : 300000 ≤ k) : impl_CommonPeriod.f k l = some (if all l = true then com l 1 else (0, false)) := by
  unfold impl_CommonPeriod.f
  rw [are_eq]; simp only [Option.bind_some]
  cases h : all l with
  | false => simp
  | true =>
    simp only [if_true]
    have h' := h
    unfold all at h'
    simp only [Bool.and_eq_true, decide_eq_true_eq] at h'
    have := impl_loop l [] k 1 0 rfl (by simp; omega) h'.2 (by omega) (by omega) (by omega)
    rw [List.nil_append] at this
    rw [show ((1 : Nat) : Int) = 1 from rfl] at this
    exact this
/-- The common period, as it is computed. -/
theorem common_eq (p q : Nat) (o u : Int) (k : Nat) (hp : 1 ≤ p) (hp' : p ≤ 100) (hq : 1 ≤ q) (hq' : q ≤ 100) (ho : 0 ≤ o) (ho' : o ≤ 100) (hu : 0 ≤ u) (hu' : u ≤ 100) (hk : 300000 ≤ k) :
    impl_CommonPeriod.f k [⟨p, o⟩, ⟨q, u⟩] = some (((com2 p q : Nat) : Int), true) := by
  obtain ⟨_, _, f3, f4, _⟩ := com2_facts p q hp hq
  have hpq : p * q ≤ 100 * 100 := Nat.mul_le_mul hp' hq'
  have ha : all [⟨p, o⟩, ⟨q, u⟩] = true := by
    unfold all impl_areClocks.ok
    simp; omega
  rw [impl_eq _ (by simp) k hk, ha]
  simp only [if_true]
  have e1 : 1 / Nat.gcd 1 p * p = p := by rw [Nat.gcd_one_left]; omega
  have e2 : p / Nat.gcd p q * q = com2 p q := rfl
  simp only [com, Int.toNat_natCast, e1, e2]
  rw [if_neg (by omega), if_neg (by omega)]
/-- The next edge, as it is computed: how far it is from a moment. -/
theorem next_eq2 (p o m : Int) (hp : 1 ≤ p) (hp' : p ≤ 100) (ho : 0 ≤ o) (ho' : o ≤ 100) (hm : 0 ≤ m) (hm' : m ≤ 100000) :
    impl_NextEdge.f p o m = some (o + eb p o m * p, true) ∧ 0 ≤ o + eb p o m * p - m ∧ p ∣ (o + eb p o m * p - m) - (o - m) ∧ o + eb p o m * p ≤ m + 200 := by
  have h0 := eb_nonneg p o m hp
  have h1 := eb_le p o m hp ho hm
  have hb := mul_bd h0 h1 (by omega : 0 ≤ p) (by omega : p ≤ 100)
  have h3 : 0 ≤ o + eb p o m * p - m ∧ o + eb p o m * p ≤ m + 200 := by
    rcases Int.lt_or_le m o with h | h
    · have : eb p o m = 0 := by unfold eb; rw [if_pos (by omega)]
      rw [this]; omega
    · have := eb_bd p o m hp h
      rw [Int.sub_mul] at this; omega
  refine ⟨?_, h3.1, ⟨eb p o m, by rw [Int.mul_comm]; omega⟩, h3.2⟩
  unfold impl_NextEdge.f
  rw [valid_eq, moment_eq]; simp only [Option.bind_some]
  rw [if_pos (decide_eq_true ⟨⟨hp, by omega⟩, ho, by omega⟩), if_pos (decide_eq_true ⟨hm, by omega⟩), before_eq p o m hp (by omega) ho (by omega) hm (by omega)]
  simp only [Option.bind_some]
  rw [w64 (x := eb p o m * p) (by omega) (by omega), w64 (by omega) (by omega)]
/-- From the offset on, the next edge is less than a period away. -/
theorem next_lt (p o m : Int) (hp : 1 ≤ p) (hm : o ≤ m) : o + eb p o m * p - m < p := by
  have := eb_bd p o m hp hm
  rw [Int.sub_mul] at this; omega
/-- Two numbers from 0 to below d that differ by a multiple of d are one. -/
theorem same {a b d : Int} (ha : 0 ≤ a) (ha' : a < d) (hb : 0 ≤ b) (hb' : b < d) (h : d ∣ a - b) : a = b := by
  obtain ⟨c, hc⟩ := h
  rcases Int.lt_trichotomy c 0 with h1 | h1 | h1
  · have : d * c ≤ d * (-1) := Int.mul_le_mul_of_nonneg_left (by omega) (by omega)
    omega
  · rw [h1] at hc; omega
  · have : d * 1 ≤ d * c := Int.mul_le_mul_of_nonneg_left (by omega) (by omega)
    omega
/-- A number that is not negative and is r modulo d is at least r. -/
theorem at_least {a r d : Int} (ha : 0 ≤ a) (hr' : r < d) (hd : 0 < d) (h : d ∣ a - r) : r ≤ a := by
  obtain ⟨c, hc⟩ := h
  rcases Int.lt_or_le c 0 with h1 | h1
  · have : d * c ≤ d * (-1) := Int.mul_le_mul_of_nonneg_left (by omega) (by omega)
    omega
  · have := Int.mul_nonneg (by omega : 0 ≤ d) h1
    omega
end Near
end Go.Proofs.Ytfoedfigjcmjbaa.L

/- The pure side of FnWaits: the longest wait, and how many edges are near. No conditions. -/
namespace Go.Proofs.Ytfoedfigjcmjbaa.Pure
set_option linter.unusedVariables false
set_option linter.unusedSimpArgs false
open Go.RowKit Go.Proofs.Ytfoedfigjcmjbaa.A Go.Proofs.Ytfoedfigjcmjbaa.L Go.Proofs.YtfoedfigjcmjbaaW.PrintWords Go.Proofs.YtfoedfigjcmjbaaW.PrintLast Go.Proofs.YtfoedfigjcmjbaaW.PrintMore
namespace Waits_
open Near
/-- The sum of n numbers from lo on. -/
def T (F : Int → Int) : Nat → Int → Int
  | 0, _ => 0
  | n + 1, lo => F lo + T F n (lo + 1)
theorem T_split (F : Int → Int) : ∀ (a b : Nat) (lo : Int), T F (a + b) lo = T F a lo + T F b (lo + a)
  | 0, b, lo => by simp [T]
  | a + 1, b, lo => by
    rw [show a + 1 + b = (a + b) + 1 by omega]
    simp only [T]
    rw [T_split F a b (lo + 1), show lo + 1 + (a : Int) = lo + ((a + 1 : Nat) : Int) by omega]; omega
theorem T_congr {F G : Int → Int} : ∀ (n : Nat) (lo : Int), (∀ i, lo ≤ i → i < lo + n → F i = G i) → T F n lo = T G n lo
  | 0, _, _ => rfl
  | n + 1, lo, h => by
    simp only [T]
    rw [h lo (by omega) (by omega), T_congr n (lo + 1) (fun i h1 h2 => h i (by omega) (by omega))]
theorem T_zero : ∀ (n : Nat) (lo : Int), T (fun _ => 0) n lo = 0
  | 0, _ => rfl
  | n + 1, lo => by simp only [T]; rw [T_zero n]; rfl
theorem T_add (F G : Int → Int) : ∀ (n : Nat) (lo : Int), T (fun i => F i + G i) n lo = T F n lo + T G n lo
  | 0, _ => rfl
  | n + 1, lo => by simp only [T]; rw [T_add F G n]; omega
theorem T_swap (F : Int → Int → Int) (m : Nat) (lo' : Int) : ∀ (n : Nat) (lo : Int), T (fun i => T (fun j => F i j) m lo') n lo = T (fun j => T (fun i => F i j) n lo) m lo'
  | 0, lo => by simp only [T]; exact (T_zero m lo').symm
  | n + 1, lo => by
    simp only [T]
    rw [T_swap F m lo' n (lo + 1), T_add]
/-- One number alone. -/
theorem T_one {F : Int → Int} {n : Nat} {lo x : Int} (h1 : lo ≤ x) (h2 : x < lo + n) (h : ∀ i, lo ≤ i → i < lo + n → i ≠ x → F i = 0) : T F n lo = F x := by
  obtain ⟨a, ha⟩ := Int.eq_ofNat_of_zero_le (show 0 ≤ x - lo by omega)
  obtain ⟨b, hb⟩ := Int.eq_ofNat_of_zero_le (show 0 ≤ lo + n - x - 1 by omega)
  have e : n = a + (b + 1) := by omega
  subst e
  rw [T_split, show lo + (a : Int) = x by omega]
  simp only [T]
  rw [T_congr (G := fun _ => 0) a lo (fun i h1 h2 => h i h1 (by omega) (by omega)), T_zero,
    T_congr (G := fun _ => 0) b (x + 1) (fun i h1 h2 => h i (by omega) (by omega) (by omega)), T_zero]; omega

/-- Which distances behind the last edge are near. -/
def Nr (p bf bh : Int) (f : Int) : Bool := decide (f ≤ bf ∨ p - f < bh)
/-- What NearEdges counts. -/
def cell (p g r bf bh : Int) (f : Int) : Int := if g ∣ f - r ∧ Nr p bf bh f = true then 1 else 0
theorem near_loop (p g r bf bh : Int) (hp : 1 ≤ p) (hp' : p ≤ 100) (hg : 1 ≤ g) (hg' : g ≤ 100) (hb : 0 ≤ bf) (hh : 0 ≤ bh) (hb' : bf ≤ 100) (hh' : bh ≤ 100) : ∀ (n k : Nat) (acc f : Int) (q s : Int), p - f ≤ n → 0 ≤ f → f ≤ 200 → g ∣ f - r → 0 ≤ acc → acc + n ≤ 1000 → n + 1 < k →
    impl_NearEdges.l0 k bf bh g acc f p s = some (acc + T (cell p g r bf bh) (p - f).toNat f, wrap64 (Int.tdiv p g), true)
  | n, k, acc, f, q, s, hn, h0, h1, hd, a0, a1, hk => by
    obtain ⟨k, rfl⟩ : ∃ m, k = m + 1 := ⟨k - 1, by omega⟩
    simp only [impl_NearEdges.l0]
    by_cases hf : f < p
    · rw [if_pos hf]
      obtain ⟨n, rfl⟩ : ∃ m, n = m + 1 := ⟨n - 1, by omega⟩
      -- between f and f + g there is none
      have hsplit : T (cell p g r bf bh) (p - f).toNat f = cell p g r bf bh f + T (cell p g r bf bh) (p - (f + g)).toNat (f + g) := by
        have gap : ∀ i, f + 1 ≤ i → i < f + g → cell p g r bf bh i = 0 := fun i i1 i2 => by
          unfold cell
          rw [if_neg]
          rintro ⟨c, -⟩
          have := Int.dvd_sub c hd
          have : i - f = 0 := same (d := g) (by omega) (by omega) (Int.le_refl 0) (by omega) (by rw [show i - f - 0 = i - r - (f - r) by omega]; exact this)
          omega
        rcases Int.lt_or_le (f + g) p with hc | hc
        · obtain ⟨a, ha⟩ := Int.eq_ofNat_of_zero_le (show 0 ≤ g - 1 by omega)
          have e : (p - f).toNat = (1 + a) + (p - (f + g)).toNat := by omega
          rw [e, T_split, T_split, show f + ((1 + a : Nat) : Int) = f + g by omega]
          rw [T_congr (G := fun _ => 0) a (f + (1 : Nat)) (fun i i1 i2 => gap i (by omega) (by omega)), T_zero]
          simp [T]
        · have e : (p - f).toNat = 1 + (p - f - 1).toNat := by omega
          have e2 : (p - (f + g)).toNat = 0 := by omega
          rw [e, e2, T_split, T_congr (G := fun _ => 0) (p - f - 1).toNat (f + (1 : Nat)) (fun i i1 i2 => gap i (by omega) (by omega)), T_zero]
          simp [T]
      have go := fun (acc' : Int) (x0 : 0 ≤ acc') (x1 : acc' + n ≤ 1000) => near_loop p g r bf bh hp hp' hg hg' hb hh hb' hh' n k acc' (f + g) q s (by omega) (by omega) (by omega) (by rw [show f + g - r = f - r + g by omega]; exact Int.dvd_add hd (Int.dvd_refl g)) x0 x1 (by omega)
      rw [hsplit, w64 (x := p - f) (by omega) (by omega), w64 (x := acc + 1) (by omega) (by omega), w64 (x := f + g) (by omega) (by omega)]
      have c : cell p g r bf bh f = if f ≤ bf ∨ p - f < bh then 1 else 0 := by
        unfold cell Nr; simp only [decide_eq_true_eq, hd, true_and]
      rw [c]
      by_cases c1 : f ≤ bf
      · rw [if_pos c1, go (acc + 1) (by omega) (by omega), if_pos (.inl c1), Int.add_assoc]
      · rw [if_neg c1]
        by_cases c2 : p - f < bh
        · rw [if_pos c2, go (acc + 1) (by omega) (by omega), if_pos (.inr c2), Int.add_assoc]
        · rw [if_neg c2, go acc (by omega) (by omega), if_neg (by omega)]; simp
    · rw [if_neg hf, if_neg (by omega), show (p - f).toNat = 0 by omega]; simp [T]
/-- The wait at t. -/
def mostOf (p o q u : Int) : Nat → Int → Int → Int
  | 0, _, m => m
  | n + 1, t, m => mostOf p o q u n (t + 1) (if p ∣ t - o ∧ u + eb q u t * q - t > m then u + eb q u t * q - t else m)
theorem most_spec (p o q u : Int) : ∀ (n : Nat) (t m : Int), m ≤ mostOf p o q u n t m ∧ (∀ x, t ≤ x → x < t + n → p ∣ x - o → u + eb q u x * q - x ≤ mostOf p o q u n t m) ∧ ∀ B, m ≤ B → (∀ x, t ≤ x → x < t + n → p ∣ x - o → u + eb q u x * q - x ≤ B) → mostOf p o q u n t m ≤ B
  | 0, t, m => ⟨Int.le_refl _, fun x h1 h2 => by omega, fun B h _ => h⟩
  | n + 1, t, m => by
    obtain ⟨h1, h2, h3⟩ := most_spec p o q u n (t + 1) (if p ∣ t - o ∧ u + eb q u t * q - t > m then u + eb q u t * q - t else m)
    have e : mostOf p o q u (n + 1) t m = mostOf p o q u n (t + 1) (if p ∣ t - o ∧ u + eb q u t * q - t > m then u + eb q u t * q - t else m) := rfl
    rw [e]
    refine ⟨?_, fun x x1 x2 hx => ?_, fun B hB hx => ?_⟩
    · refine Int.le_trans ?_ h1; split <;> omega
    · rcases Int.lt_or_le t x with h | h
      · exact h2 x (by omega) (by omega) hx
      · have : x = t := by omega
        subst this
        refine Int.le_trans ?_ h1
        split
        · omega
        · rename_i hc; have : ¬ (u + eb q u x * q - x > m) := fun h => hc ⟨hx, h⟩
          omega
    · refine h3 B ?_ (fun x x1 x2 => hx x (by omega) (by omega))
      split
      · rename_i hc; exact hx t (by omega) (by omega) hc.1
      · exact hB
theorem most_eq (p q : Nat) (o u : Int) (hp : 1 ≤ p) (hp' : p ≤ 100) (hq : 1 ≤ q) (hq' : q ≤ 100) (ho : 0 ≤ o) (ho' : o ≤ 40) (hu : 0 ≤ u) (hu' : u ≤ 40) :
    mostOf p o q u (com2 p q) 40 (-1) = q - (Nat.gcd p q : Nat) + (u - o) % ((Nat.gcd p q : Nat) : Int) := by
  obtain ⟨f1, f2, f3, f4, _, _⟩ := com2_facts p q hp hq
  obtain ⟨g1, g2, g3, g4, g5⟩ := gcd_facts p q hp hq
  have hpq : p * q ≤ 100 * 100 := Nat.mul_le_mul hp' hq'
  have crt' := crt p q hp hq o (u - (u - o) % ((Nat.gcd p q : Nat) : Int) + (Nat.gcd p q : Nat)) 40
  generalize hg : Nat.gcd p q = g at *
  have r0 := Int.emod_nonneg (u - o) (by omega : (g : Int) ≠ 0)
  have r1 := Int.emod_lt_of_pos (u - o) (by omega : (0 : Int) < g)
  have r2 : (g : Int) ∣ (u - o) - (u - o) % (g : Int) := ⟨(u - o) / g, by have := Int.mul_ediv_add_emod (u - o) (g : Int); omega⟩
  generalize (u - o) % (g : Int) = r at *
  obtain ⟨m1, m2, m3⟩ := most_spec p o q u (com2 p q) 40 (-1)
  have hW : ∀ x : Int, 40 ≤ x → x < 40 + com2 p q → 0 ≤ u + eb q u x * q - x ∧ u + eb q u x * q - x < q ∧ (q : Int) ∣ (u + eb q u x * q - x) - (u - x) := fun x x1 x2 => by
    obtain ⟨_, h1, h2, _⟩ := next_eq2 q u x (by omega) (by omega) hu (by omega) (by omega) (by omega)
    exact ⟨h1, next_lt q u x (by omega) (by omega), h2⟩
  refine Int.le_antisymm (m3 _ (by omega) fun x x1 x2 hx => ?_) ?_
  · obtain ⟨w0, w1, w2⟩ := hW x x1 x2
    generalize u + eb q u x * q - x = w at *
    have d1 := Int.dvd_trans g5 w2
    have d2 := Int.dvd_trans g4 hx
    have d3 : (g : Int) ∣ w - r := by
      have := Int.dvd_add (Int.dvd_sub d1 d2) r2
      rw [show w - (u - x) - (x - o) + (u - o - r) = w - r by omega] at this; exact this
    have := at_least (a := q - w - 1) (r := g - r - 1) (d := g) (by omega) (by omega) (by omega) (by
      have := Int.dvd_sub (Int.dvd_sub g5 (Int.dvd_refl (g : Int))) d3
      rw [show (q : Int) - g - (w - r) = q - w - 1 - (g - r - 1) by omega] at this; exact this)
    omega
  · obtain ⟨t, t1, t2, t3, t4⟩ := crt' (by
      have := Int.dvd_add r2 (Int.dvd_refl (g : Int))
      rw [show u - o - r + g = u - r + g - o by omega] at this; exact this)
    obtain ⟨w0, w1, w2⟩ := hW t t1 t2
    have e : u + eb q u t * q - t = q - g + r := same w0 w1 (by omega) (by omega) (by
      have := Int.dvd_sub (Int.dvd_sub w2 t4) (Int.dvd_refl (q : Int))
      rw [show u + eb q u t * q - t - (u - t) - (t - (u - r + g)) - q = u + eb q u t * q - t - (q - g + r) by omega] at this; exact this)
    have := m2 t t1 t2 t3
    omega
/-- Near edges, counted over a common period and over the distances. -/
theorem count_eq (p q : Nat) (o u bf bh : Int) (hp : 1 ≤ p) (hq : 1 ≤ q) :
    T (fun t => if (q : Int) ∣ t - u ∧ Nr p bf bh ((t - o) % p) = true then 1 else 0) (com2 p q) 60 = T (cell p (Nat.gcd p q : Nat) ((u - o) % ((Nat.gcd p q : Nat) : Int)) bf bh) p 0 := by
  obtain ⟨f1, f2, f3, f4, _, f6⟩ := com2_facts p q hp hq
  obtain ⟨g1, g2, g3, g4, g5⟩ := gcd_facts p q hp hq
  have crt' := fun f => crt p q hp hq (o + f) u 60
  generalize hg : Nat.gcd p q = g at *
  have r2 : (g : Int) ∣ (u - o) - (u - o) % (g : Int) := ⟨(u - o) / g, by have := Int.mul_ediv_add_emod (u - o) (g : Int); omega⟩
  generalize (u - o) % (g : Int) = r at *
  have s1 : T (fun t => if (q : Int) ∣ t - u ∧ Nr p bf bh ((t - o) % p) = true then 1 else 0) (com2 p q) 60 = T (fun t => T (fun f => if (q : Int) ∣ t - u ∧ (p : Int) ∣ t - o - f ∧ Nr p bf bh f = true then 1 else 0) p 0) (com2 p q) 60 := by
    refine T_congr _ _ fun t t1 t2 => ?_
    have e0 := Int.emod_nonneg (t - o) (by omega : (p : Int) ≠ 0)
    have e1 := Int.emod_lt_of_pos (t - o) (by omega : (0 : Int) < p)
    have e2 : (p : Int) ∣ (t - o) - (t - o) % (p : Int) := ⟨(t - o) / p, by have := Int.mul_ediv_add_emod (t - o) (p : Int); omega⟩
    generalize (t - o) % (p : Int) = x at *
    rw [T_one (x := x) e0 (by omega) (fun i i1 i2 i3 => if_neg fun h => i3 (same (d := p) i1 (by omega) e0 (by omega) (by
      have := Int.dvd_sub e2 h.2.1
      rw [show t - o - x - (t - o - i) = i - x by omega] at this; exact this)))]
    by_cases c : (q : Int) ∣ t - u ∧ Nr p bf bh x = true
    · rw [if_pos c, if_pos ⟨c.1, e2, c.2⟩]
    · rw [if_neg c, if_neg fun h => c ⟨h.1, h.2.2⟩]
  rw [s1, T_swap (fun t f => if (q : Int) ∣ t - u ∧ (p : Int) ∣ t - o - f ∧ Nr p bf bh f = true then 1 else 0)]
  refine T_congr _ _ fun f h1 h2 => ?_
  unfold cell
  by_cases c : (g : Int) ∣ f - r ∧ Nr p bf bh f = true
  · rw [if_pos c]
    obtain ⟨t, t1, t2, t3, t4⟩ := crt' f (by
      have := Int.dvd_sub r2 c.1
      rw [show u - o - r - (f - r) = u - (o + f) by omega] at this; exact this)
    rw [T_one (x := t) t1 t2 (fun i i1 i2 i3 => if_neg fun h => i3 (by
      have d1 := Int.dvd_sub h.1 t4
      have d2 := Int.dvd_sub h.2.1 t3
      have := f6 (i - t) (by rw [show i - o - f - (t - (o + f)) = i - t by omega] at d2; exact d2) (by rw [show i - u - (t - u) = i - t by omega] at d1; exact d1)
      have := same (a := i - 60) (b := t - 60) (d := com2 p q) (by omega) (by omega) (by omega) (by omega) (by rw [show i - 60 - (t - 60) = i - t by omega]; exact this)
      omega))]
    rw [if_pos ⟨t4, by rw [show t - o - f = t - (o + f) by omega]; exact t3, c.2⟩]
  · rw [if_neg c, T_congr (G := fun _ => 0) _ _ (fun i i1 i2 => if_neg fun h => c ⟨?_, h.2.2⟩), T_zero]
    have := Int.dvd_add (Int.dvd_sub (Int.dvd_trans g4 h.2.1) (Int.dvd_trans g5 h.1)) r2
    have := Int.dvd_neg.2 this
    rw [show -(i - o - f - (i - u) + (u - o - r)) = f + r - 2 * u + 2 * o by omega] at this
    have h3 := Int.dvd_add this (Int.dvd_add r2 r2)
    rw [show f + r - 2 * u + 2 * o + (u - o - r + (u - o - r)) = f - r by omega] at h3; exact h3
/-- Whether there is an edge of a among n moments from x on. -/
def hit (p o : Int) : Nat → Int → Bool
  | 0, _ => false
  | n + 1, x => decide (p ∣ x - o) || hit p o n (x + 1)
theorem hit_iff (p o : Int) : ∀ (n : Nat) (x : Int), hit p o n x = true ↔ ∃ i, x ≤ i ∧ i < x + n ∧ p ∣ i - o
  | 0, x => by
    simp only [hit, Bool.false_eq_true, false_iff]
    rintro ⟨i, h1, h2, _⟩; omega
  | n + 1, x => by
    simp only [hit, Bool.or_eq_true, decide_eq_true_eq]
    rw [hit_iff p o n (x + 1)]
    constructor
    · rintro (h | ⟨i, h1, h2, h3⟩)
      · exact ⟨x, by omega, by omega, h⟩
      · exact ⟨i, by omega, by omega, h3⟩
    · rintro ⟨i, h1, h2, h3⟩
      by_cases h : i = x
      · subst h; exact .inl h3
      · exact .inr ⟨i, by omega, by omega, h3⟩
theorem hit_eq (p o bf bh t : Int) (n : Nat) (hp : 1 ≤ p) (hb : 0 ≤ bf) (hh : 0 ≤ bh) (hn : n = bf + (if 1 ≤ bh then bh else 1)) : hit p o n (t - bf) = Nr p bf bh ((t - o) % p) := by
  have e0 := Int.emod_nonneg (t - o) (by omega : p ≠ 0)
  have e1 := Int.emod_lt_of_pos (t - o) (by omega : 0 < p)
  have e2 : p ∣ (t - o) - (t - o) % p := ⟨(t - o) / p, by have := Int.mul_ediv_add_emod (t - o) p; omega⟩
  generalize (t - o) % p = f at *
  rw [Bool.eq_iff_iff, hit_iff]
  unfold Nr
  rw [decide_eq_true_eq]
  constructor
  · rintro ⟨i, h1, h2, h3⟩
    rcases Int.lt_or_le t i with h | h
    · right
      have := at_least (a := i - t - 1) (r := p - f - 1) (d := p) (by omega) (by omega) (by omega) (by
        have := Int.dvd_sub (Int.dvd_add h3 (Int.dvd_neg.2 e2)) (Int.dvd_refl p)
        rw [show i - o + -(t - o - f) - p = i - t - 1 - (p - f - 1) by omega] at this; exact this)
      split at hn <;> omega
    · left
      have := at_least (a := t - i) (r := f) (d := p) (by omega) e1 (by omega) (by
        have := Int.dvd_sub e2 h3
        rw [show t - o - f - (i - o) = t - i - f by omega] at this; exact this)
      omega
  · rintro (h | h)
    · exact ⟨t - f, by omega, by split at hn <;> omega, by rw [show t - f - o = t - o - f by omega]; exact e2⟩
    · exact ⟨t - f + p, by omega, by split at hn <;> omega, by rw [show t - f + p - o = t - o - f + p by omega]; exact Int.dvd_add e2 (Int.dvd_refl p)⟩
theorem law_most (x7 L x11 x12 x13 : Int) (p o q u : Int) (hp : 1 ≤ p) (hp' : p ≤ 100) (hq : 1 ≤ q) (hq' : q ≤ 100) (ho : 0 ≤ o) (ho' : o ≤ 40) (hu : 0 ≤ u) (hu' : u ≤ 40) (hL : L ≤ 10000) : ∀ (n k : Nat) (m t : Int), 40 ≤ t → t + n = 40 + L →
    laws_FnWaits.l0 (n + (k + 1)) x7 L x11 x12 x13 m t p o q u = laws_FnWaits.l1 k x7 L x11 x12 x13 (mostOf p o q u n t m) 0 60 p o q u
  | 0, k, m, t, h1, h2 => by
    rw [Nat.zero_add]
    simp only [laws_FnWaits.l0, mostOf]
    rw [w64 (x := 40 + L) (by omega) (by omega), if_neg (by omega)]
  | n + 1, k, m, t, h1, h2 => by
    have go := fun m' => law_most x7 L x11 x12 x13 p o q u hp hp' hq hq' ho ho' hu hu' hL n k m' (t + 1) (by omega) (by omega)
    obtain ⟨K, hK⟩ : ∃ K, n + (k + 1) = K := ⟨_, rfl⟩
    rw [show n + 1 + (k + 1) = K + 1 by omega]
    rw [hK] at go
    simp only [laws_FnWaits.l0, mostOf]
    obtain ⟨e1, e2, _, e3⟩ := next_eq2 q u t hq hq' hu (by omega) (by omega) (by omega)
    rw [w64 (x := 40 + L) (by omega) (by omega), if_pos (by omega), if_neg (by omega), w64 (x := t - o) (by omega) (by omega), w64 (x := t + 1) (by omega) (by omega), e1]
    simp only [Option.bind_some, if_true]
    rw [w64 (x := u + eb q u t * q - t) (by omega) (by omega)]
    by_cases c : p ∣ t - o
    · rw [if_pos ((tmod_dvd _ _).2 c)]
      by_cases c2 : u + eb q u t * q - t > m
      · rw [if_pos c2, if_pos ⟨c, c2⟩]; exact go _
      · rw [if_neg c2, if_neg (fun h => c2 h.2)]; exact go _
    · rw [if_neg (fun h => c ((tmod_dvd _ _).1 h)), if_neg (fun h => c h.1)]; exact go _
theorem law_hit (x7 L bf bh x13 x16 acc t : Int) (p o q u : Int) (hp : 1 ≤ p) (ho : 0 ≤ o) (ho' : o ≤ 40) (hb : 0 ≤ bf) (hb' : bf ≤ 10) (hh : 0 ≤ bh) (hh' : bh ≤ 10) (ht : 60 ≤ t) (ht' : t ≤ 100000) : ∀ (n k : Nat) (b : Bool) (x : Int), t - bf ≤ x → x + n = t + (if 1 ≤ bh then bh else 1) →
    laws_FnWaits.l2 (n + (k + 1)) x7 L bf bh x13 x16 acc t b x p o q u = if b || hit p o n x then laws_FnWaits.l1 k x7 L bf bh x13 x16 (wrap64 (acc + 1)) (wrap64 (t + 1)) p o q u else laws_FnWaits.l1 k x7 L bf bh x13 x16 acc (wrap64 (t + 1)) p o q u
  | 0, k, b, x, h1, h2 => by
    rw [Nat.zero_add]
    simp only [laws_FnWaits.l2, hit, Bool.or_false]
    have : t + bh ≤ x ∧ t < x := by split at h2 <;> omega
    rw [w64 (x := t + bh) (by omega) (by omega), if_neg (by omega), if_neg (by omega)]
  | n + 1, k, b, x, h1, h2 => by
    obtain ⟨K, hK⟩ : ∃ K, n + (k + 1) = K := ⟨_, rfl⟩
    rw [show n + 1 + (k + 1) = K + 1 by omega]
    have hx : x < t + bh ∨ x ≤ t := by split at h2 <;> omega
    have hx' : x ≤ t + 10 := by split at h2 <;> omega
    have go := fun b' => law_hit x7 L bf bh x13 x16 acc t p o q u hp ho ho' hb hb' hh hh' ht ht' n k b' (x + 1) (by omega) (by omega)
    rw [hK] at go
    simp only [laws_FnWaits.l2, hit]
    rw [w64 (x := t + bh) (by omega) (by omega), w64 (x := x + 1) (by omega) (by omega), w64 (x := x - o) (by omega) (by omega), w64 (x := t - bf) (by omega) (by omega)]
    cases b with
    | true => simp only [if_true, go, Bool.true_or]; rcases hx with c | c <;> simp [c]
    | false =>
      simp only [go, Bool.false_or, Bool.false_eq_true, if_false]
      have c3 : x ≥ o := by omega
      have c4 : x ≥ t - bf := by omega
      have c5 : ¬ p = 0 := by omega
      by_cases d : p ∣ x - o
      · have d' := (tmod_dvd _ _).2 d
        simp only [if_pos c3, if_neg c5, if_pos d', if_pos c4, d, decide_true, Bool.true_or, if_true]
        by_cases c1 : x < t + bh
        · rw [if_pos c1]
          by_cases c2 : x ≤ t
          · rw [if_pos c2]
          · rw [if_neg c2, if_pos (by omega)]; simp [c1]
        · rw [if_neg c1, if_pos (by omega)]
      · have d' : ¬ Int.tmod (x - o) p = 0 := fun h => d ((tmod_dvd _ _).1 h)
        simp only [if_pos c3, if_neg c5, if_neg d', d, decide_false, Bool.false_or]
        rcases hx with c | c <;> by_cases c' : x ≤ t <;> simp_all
theorem law_count (x7 L bf bh x13 x16 : Int) (p o q u : Int) (hp : 1 ≤ p) (hq : 1 ≤ q) (ho : 0 ≤ o) (ho' : o ≤ 40) (hu : 0 ≤ u) (hu' : u ≤ 40) (hb : 0 ≤ bf) (hb' : bf ≤ 10) (hh : 0 ≤ bh) (hh' : bh ≤ 10) (hL : L ≤ 10000) : ∀ (n k : Nat) (acc t : Int), 60 ≤ t → t + n = 60 + L → 0 ≤ acc → acc + n ≤ 100000 → n * 30 + 1 ≤ k →
    laws_FnWaits.l1 k x7 L bf bh x13 x16 acc t p o q u = if x16 = x7 then some (acc + T (fun t => if q ∣ t - u ∧ Nr p bf bh ((t - o) % p) = true then 1 else 0) n t == x13) else some false
  | 0, k, acc, t, h1, h2, a0, a1, hk => by
    obtain ⟨k, rfl⟩ : ∃ m, k = m + 1 := ⟨k - 1, by omega⟩
    simp only [laws_FnWaits.l1, T]
    rw [w64 (x := 60 + L) (by omega) (by omega), if_neg (by omega), Int.add_zero]
  | n + 1, k, acc, t, h1, h2, a0, a1, hk => by
    obtain ⟨k, rfl⟩ : ∃ m, k = m + 1 := ⟨k - 1, by omega⟩
    simp only [laws_FnWaits.l1, T]
    rw [w64 (x := 60 + L) (by omega) (by omega), if_pos (by omega), if_neg (by omega), w64 (x := t - u) (by omega) (by omega), w64 (x := t + 1) (by omega) (by omega), w64 (x := t - bf) (by omega) (by omega)]
    have go := fun k' hk' acc' x0 x1 => law_count x7 L bf bh x13 x16 p o q u hp hq ho ho' hu hu' hb hb' hh hh' hL n k' acc' (t + 1) (by omega) (by omega) x0 x1 hk'
    by_cases c : q ∣ t - u
    · rw [if_pos ((tmod_dvd _ _).2 c)]
      obtain ⟨w, hw⟩ := Int.eq_ofNat_of_zero_le (show 0 ≤ bf + (if 1 ≤ bh then bh else 1) by split <;> omega)
      have hw' : w ≤ 20 := by split at hw <;> omega
      obtain ⟨j, rfl⟩ : ∃ j, k = w + (j + 1) := ⟨k - w - 1, by omega⟩
      rw [law_hit x7 L bf bh x13 x16 acc t p o q u hp ho ho' hb hb' hh hh' h1 (by omega) w j false (t - bf) (by omega) (by omega), Bool.false_or, hit_eq p o bf bh t w hp hb hh hw.symm]
      rw [w64 (x := t + 1) (by omega) (by omega), w64 (x := acc + 1) (by omega) (by omega)]
      by_cases d : Nr p bf bh ((t - o) % p) = true
      · have e1 : (if q ∣ t - u ∧ Nr p bf bh ((t - o) % p) = true then (1 : Int) else 0) = 1 := if_pos ⟨c, d⟩
        rw [if_pos d, e1, go j (by omega) (acc + 1) (by omega) (by omega), Int.add_assoc]
      · have e1 : (if q ∣ t - u ∧ Nr p bf bh ((t - o) % p) = true then (1 : Int) else 0) = 0 := if_neg (fun h => d h.2)
        rw [if_neg d, e1, go j (by omega) acc a0 (by omega), Int.zero_add]
    · have e1 : (if q ∣ t - u ∧ Nr p bf bh ((t - o) % p) = true then (1 : Int) else 0) = 0 := if_neg (fun h => c h.1)
      rw [if_neg (fun h => c ((tmod_dvd _ _).1 h)), e1, go k (by omega) acc a0 (by omega), Int.zero_add]
theorem wrap_div (a b d : Nat) (h : a / b = d) (hd : d ≤ 20) : wrap64 (Int.tdiv (a : Int) (b : Int)) = (d : Int) := by rw [tdiv_cast, h]; exact w64 (by omega) (by omega)
end Waits_
open Waits_ Near

theorem FnWaits : laws_FnWaits.Pure := by
  intro l0 l1 _ _ u0 _ _ u1
  obtain ⟨p, o, hc, p1, p2, o1, o2⟩ := clock_eq u0
  obtain ⟨q, u, hc', q1, q2, u1', u2⟩ := clock_eq u1
  obtain ⟨bf, hf, b0, b1⟩ := r8At_eq u1 40 5 (by omega) (by omega)
  obtain ⟨bh, hn, n0, n1⟩ := r8At_eq u1 41 5 (by omega) (by omega)
  obtain ⟨N, hN⟩ : ∃ N : Nat, N = 999999 := ⟨_, rfl⟩
  refine ⟨N + 1, ?_⟩
  unfold laws_FnWaits.f
  have hlong : ∃ b, laws_r8Long.f l0 l1 = some b := by
    unfold laws_r8Long.f; split <;> exact ⟨_, rfl⟩
  obtain ⟨b, hb⟩ := hlong
  rw [hb]; simp only [Option.bind_some]
  cases b with
  | true => rfl
  | false =>
  simp only [Bool.false_eq_true, if_false]
  rw [hc]; simp only [Option.bind_some]
  rw [hc']; simp only [Option.bind_some]
  obtain ⟨p, rfl⟩ := Int.eq_ofNat_of_zero_le (show 0 ≤ p by omega)
  obtain ⟨q, rfl⟩ := Int.eq_ofNat_of_zero_le (show 0 ≤ q by omega)
  have hp : 1 ≤ p := by omega
  have hq : 1 ≤ q := by omega
  obtain ⟨f1, f2, f3, f4, f5, f6⟩ := com2_facts p q hp hq
  obtain ⟨g1, g2, g3, g4, g5⟩ := gcd_facts p q hp hq
  have hpq : p * q ≤ 20 * 20 := Nat.mul_le_mul (by omega) (by omega)
  have hm := most_eq p q o u hp (by omega) hq (by omega) o1 (by omega) u1' (by omega)
  have hcnt := count_eq p q o u bf bh hp hq
  have hap := apart_eq p q o u (N + 1) hp (by omega) hq (by omega) o1 (by omega) u1' (by omega) (by omega)
  have hap' := apart_eq p q o u N hp (by omega) hq (by omega) o1 (by omega) u1' (by omega) (by omega)
  have hcm := common_eq p q o u (N + 1) hp (by omega) hq (by omega) o1 (by omega) u1' (by omega) (by omega)
  have r0 := Int.emod_nonneg (u - o) (by omega : ((Nat.gcd p q : Nat) : Int) ≠ 0)
  have r1 := Int.emod_lt_of_pos (u - o) (by omega : (0 : Int) < (Nat.gcd p q : Nat))
  have hnl := near_loop p (Nat.gcd p q : Nat) ((u - o) % ((Nat.gcd p q : Nat) : Int)) bf bh (by omega) (by omega) (by omega) (by omega) b0 n0 (by omega) (by omega) 20 N 0 ((u - o) % ((Nat.gcd p q : Nat) : Int)) p o (by omega) r0 (by omega) ⟨0, by omega⟩ (by omega) (by omega) (by omega)
  have hsum : T (cell p (Nat.gcd p q : Nat) ((u - o) % ((Nat.gcd p q : Nat) : Int)) bf bh) p 0 = T (cell p (Nat.gcd p q : Nat) ((u - o) % ((Nat.gcd p q : Nat) : Int)) bf bh) (p - (u - o) % ((Nat.gcd p q : Nat) : Int)).toNat ((u - o) % ((Nat.gcd p q : Nat) : Int)) := by
    generalize (u - o) % ((Nat.gcd p q : Nat) : Int) = r at *
    obtain ⟨a, ha⟩ := Int.eq_ofNat_of_zero_le r0
    have e : p = a + (p - r).toNat := by omega
    have := T_split (cell p (Nat.gcd p q : Nat) r bf bh) a (p - r).toNat 0
    rw [← e, T_congr (G := fun _ => 0) a 0 (fun i i1 i2 => by
      unfold cell
      refine if_neg fun h => ?_
      have := same (d := (Nat.gcd p q : Nat)) i1 (by omega) r0 r1 h.1
      omega), T_zero, show (0 : Int) + a = r by omega, Int.zero_add] at this
    exact this
  have dle : p / Nat.gcd p q ≤ 20 := Nat.le_trans (Nat.div_le_self _ _) (by omega)
  have hdiv := wrap_div (com2 p q) q _ f5 dle
  have hdiv' := wrap_div p (Nat.gcd p q) _ rfl dle
  generalize (u - o) % ((Nat.gcd p q : Nat) : Int) = r at *
  have hlw : impl_LongestWait.f (N + 1) p o q u = some ((q : Int) - (Nat.gcd p q : Nat) + r, true) := by
    unfold impl_LongestWait.f
    rw [valid_eq, valid_eq]; simp only [Option.bind_some]
    rw [if_pos (decide_eq_true (by omega)), if_pos (decide_eq_true (by omega)), hap]
    simp only [Option.bind_some]
    rw [w64 (x := (q : Int) - (Nat.gcd p q : Nat)) (by omega) (by omega), w64 (by omega) (by omega)]
  have hne : impl_NearEdges.f (N + 1) p o q u bf bh = some (T (cell p (Nat.gcd p q : Nat) r bf bh) p 0, ((p / Nat.gcd p q : Nat) : Int), true) := by
    unfold impl_NearEdges.f
    rw [valid_eq, valid_eq, within_eq, within_eq]; simp only [Option.bind_some]
    rw [if_pos (decide_eq_true (by omega)), if_pos (decide_eq_true (by omega)), if_pos (decide_eq_true (by omega)), decide_eq_true (by omega)]
    simp only [impl_NearEdges.j0, Bool.not_true, Bool.false_eq_true, if_false]
    rw [hap']; simp only [Option.bind_some]
    rw [hnl, hdiv', hsum, Int.zero_add]
  rw [hlw]; simp only [Option.bind_some]
  rw [hcm]; simp only [Option.bind_some]
  rw [hf]; simp only [Option.bind_some]
  rw [hn]; simp only [Option.bind_some]
  rw [hne]; simp only [Option.bind_some, if_true]
  rw [if_neg (by omega), hdiv, show (((p / Nat.gcd p q : Nat) : Int) != ((p / Nat.gcd p q : Nat) : Int)) = false by simp]
  obtain ⟨K, hK⟩ : ∃ K, N = com2 p q + (K + 1) := ⟨N - 1 - com2 p q, by omega⟩
  simp only [laws_FnWaits.j0, Bool.false_eq_true, if_false]
  rw [hK, law_most _ _ _ _ _ p o q u (by omega) (by omega) (by omega) (by omega) o1 (by omega) u1' (by omega) (by omega) (com2 p q) K (-1) 40 (by omega) (by omega)]
  rw [law_count _ _ bf bh _ _ p o q u (by omega) (by omega) o1 (by omega) u1' (by omega) b0 (by omega) n0 (by omega) (by omega) (com2 p q) K 0 60 (by omega) (by omega) (by omega) (by omega) (by omega)]
  rw [hm, if_pos rfl, hcnt]; simp

end Go.Proofs.Ytfoedfigjcmjbaa.Pure
