/- Plain lemmas on the printed functions of the seat of the clocks: edges, moments, drawn clocks. No conditions. -/
import Derived.Test.YtfoedfigjcmjbaaA17
import Derived.Test.YtfoedfigjcmjbaaA18
import Derived.Test.YtfoedfigjcmjbaaA20
import Derived.Test.YtfoedfigjcmjbaaA45
namespace Go.Proofs.Ytfoedfigjcmjbaa.L
set_option linter.unusedVariables false
set_option linter.unusedSimpArgs false
open Go.RowKit Go.Proofs.Ytfoedfigjcmjbaa.A Go.Proofs.YtfoedfigjcmjbaaW.PrintWords Go.Proofs.YtfoedfigjcmjbaaW.PrintLast Go.Proofs.YtfoedfigjcmjbaaW.PrintMore

theorem w64 {x : Int} (h1 : -9223372036854775808 ≤ x) (h2 : x ≤ 9223372036854775807) : wrap64 x = x := by unfold wrap64; omega
theorem wu64 (n : Int) : IntKind.u64.wrap n = n % 18446744073709551616 := by simp [IntKind.wrap, IntKind.bits, IntKind.signed]
theorem and255 (x : Int) (h0 : 0 ≤ x) (h1 : x < 16777216) : bits .and .u64 x 255 = x % 256 :=
  bits_mask .u64 24 (by decide) (fun n a b => by rw [wu64]; simp at b; omega) 8 (by decide) x h0 (by simpa using h1)
theorem tmod_pos (x n : Int) (h0 : 0 ≤ x) : Int.tmod x n = x % n := Int.tmod_eq_emod_of_nonneg h0

theorem within_eq (a b c : Int) : impl_within.f a b c = some (decide (b ≤ a ∧ a ≤ c)) := by
  unfold impl_within.f
  by_cases h : a ≥ b
  · rw [if_pos h]; have h' : b ≤ a := h; simp [h']
  · rw [if_neg h]; have h' : ¬ b ≤ a := h; simp [h']

def U8 (l : List Int) : Prop := ∀ x ∈ l, (Lit.int .u8 x).wf = true
theorem u8_rd {l : List Int} (h : U8 l) (i : Int) : 0 ≤ rd l i ∧ rd l i ≤ 255 := by
  unfold rd
  rw [List.getD_eq_getElem?_getD]
  rcases hq : l[i.toNat]? with _ | x
  · simp
  · have hm := h x (List.mem_of_getElem? hq)
    simp only [Lit.wf, Bool.and_eq_true, decide_eq_true_eq] at hm
    have e1 : IntKind.u8.min = 0 := rfl
    have e2 : IntKind.u8.max = 255 := rfl
    simp only [Option.getD_some]; omega

theorem r8At_eq {l : List Int} (h : U8 l) (k n : Int) (hk : 0 ≤ k) (hn : 1 ≤ n) : ∃ x, laws_r8At.f l k n = some x ∧ 0 ≤ x ∧ x < n := by
  unfold laws_r8At.f
  by_cases h1 : n ≤ 1
  · exact ⟨0, by rw [if_pos h1], by omega, by omega⟩
  · rw [if_neg h1]
    by_cases h2 : k ≥ (l.length : Int)
    · exact ⟨0, by rw [if_pos h2], by omega, by omega⟩
    · have hr := u8_rd h k
      rw [if_neg h2, if_pos hk, if_pos (by omega), if_neg (by omega), w64 (by omega) (by omega), tmod_pos _ _ hr.1]
      exact ⟨_, rfl, Int.emod_nonneg _ (by omega), Int.emod_lt_of_pos _ (by omega)⟩

theorem next_eq {l : List Int} (h : U8 l) (at_ seed : Int) (h0 : 0 ≤ at_) (h1 : at_ ≤ 1000) : ∃ v s, spec_l00Src_next.f l at_ seed = some (v, at_ + 1, s) ∧ 0 ≤ v ∧ v ≤ 255 := by
  unfold spec_l00Src_next.f
  have hr := u8_rd h at_
  have hw : wrap64 (at_ + 1) = at_ + 1 := w64 (by omega) (by omega)
  have hb : ∀ e : Int, 0 ≤ wrap64 (bits .and .u64 ((IntKind.u64.wrap e) / 1099511627776) 255) ∧ wrap64 (bits .and .u64 ((IntKind.u64.wrap e) / 1099511627776) 255) ≤ 255 := by
    intro e
    rw [wu64, and255 _ (by omega) (by omega), w64 (by omega) (by omega)]; omega
  rw [hw]
  by_cases c1 : at_ < (l.length : Int)
  · rw [if_pos c1, if_pos h0]
    split
    · exact ⟨_, _, rfl, by rw [w64 (by omega) (by omega)]; omega, by rw [w64 (by omega) (by omega)]; omega⟩
    · exact ⟨_, _, rfl, (hb _).1, (hb _).2⟩
  · rw [if_neg c1]
    split
    · exact ⟨_, _, rfl, by omega, by omega⟩
    · exact ⟨_, _, rfl, (hb _).1, (hb _).2⟩
theorem pick_eq {l : List Int} (h : U8 l) (at_ seed n : Int) (h0 : 0 ≤ at_) (h1 : at_ ≤ 1000) (hn : 2 ≤ n) (hn' : n ≤ 200) : ∃ v s, spec_l00Src_pick.f l at_ seed n = some (v, at_ + 1, s) ∧ 0 ≤ v ∧ v < n := by
  obtain ⟨v, s, hv, v0, v1⟩ := next_eq h at_ seed h0 h1
  unfold spec_l00Src_pick.f
  rw [if_neg (by omega), hv]; simp only [Option.bind_some]
  rw [if_neg (by omega), if_neg (by omega), tmod_pos _ _ v0]
  exact ⟨_, _, rfl, Int.emod_nonneg _ (by omega), Int.emod_lt_of_pos _ (by omega)⟩
theorem clock_eq {l : List Int} (h : U8 l) : ∃ p o, spec_R8Clock.f l = some (p, o) ∧ 1 ≤ p ∧ p ≤ 20 ∧ 0 ≤ o ∧ o ≤ 29 := by
  obtain ⟨x, s, hx, x0, x1⟩ := pick_eq h 0 0 20 (by omega) (by omega) (by omega) (by omega)
  obtain ⟨y, s', hy, y0, y1⟩ := pick_eq h (0 + 1) s 30 (by omega) (by omega) (by omega) (by omega)
  unfold spec_R8Clock.f spec_l00From.f
  simp only [Option.bind_some]
  rw [hx]; simp only [Option.bind_some]
  rw [hy]; simp only [Option.bind_some]
  rw [w64 (by omega) (by omega)]
  exact ⟨_, _, rfl, by omega, by omega, by omega, by omega⟩

theorem valid_eq (p o : Int) : impl_ValidClock.f p o = some (decide ((1 ≤ p ∧ p ≤ 100000) ∧ (0 ≤ o ∧ o ≤ 100000))) := by
  unfold impl_ValidClock.f
  rw [within_eq, within_eq]; simp only [Option.bind_some]
  by_cases h : 1 ≤ p ∧ p ≤ 100000 <;> by_cases k : 0 ≤ o ∧ o ≤ 100000 <;> simp [h, k]
theorem moment_eq (m : Int) : impl_isMoment.f m = some (decide (0 ≤ m ∧ m ≤ 1000000000000)) := by
  unfold impl_isMoment.f; rw [within_eq]; rfl
theorem mul_bd {a b A B : Int} (a0 : 0 ≤ a) (a1 : a ≤ A) (b0 : 0 ≤ b) (b1 : b ≤ B) : 0 ≤ a * b ∧ a * b ≤ A * B :=
  ⟨Int.mul_nonneg a0 b0, Int.mul_le_mul a1 b1 b0 (by omega)⟩
theorem edge_eq (p o i : Int) (hp : 1 ≤ p) (hp' : p ≤ 100000) (ho : 0 ≤ o) (ho' : o ≤ 100000) (hi : 0 ≤ i) (hi' : i ≤ 1000000000000) (hm : o + i * p ≤ 1000000000000) : impl_EdgeAt.f p o i = some (o + i * p, true) := by
  have hb := mul_bd hi hi' (by omega : 0 ≤ p) hp'
  unfold impl_EdgeAt.f
  rw [valid_eq, moment_eq, w64 (x := i * p) (by omega) (by omega), w64 (by omega) (by omega), moment_eq]
  simp only [Option.bind_some]
  rw [if_pos (decide_eq_true ⟨⟨hp, hp'⟩, ho, ho'⟩), if_pos (decide_eq_true ⟨hi, hi'⟩), if_pos (decide_eq_true ⟨by omega, hm⟩)]

/-- How many edges there are before a moment. -/
def eb (p o m : Int) : Int := if m ≤ o then 0 else (m - o + p - 1) / p
theorem eb_nonneg (p o m : Int) (hp : 1 ≤ p) : 0 ≤ eb p o m := by
  unfold eb; split
  · omega
  · exact Int.ediv_nonneg (by omega) (by omega)
theorem eb_lt (p o m : Int) (hp : 1 ≤ p) (k : Int) (hk : 0 ≤ k) : k < eb p o m ↔ o + k * p < m := by
  have hkp := Int.mul_nonneg hk (by omega : (0:Int) ≤ p)
  unfold eb; split
  · rename_i h; constructor
    · intro h'; omega
    · intro h'; omega
  · rename_i h
    have h1 : k < (m - o + p - 1) / p ↔ (k + 1) * p ≤ m - o + p - 1 := Int.add_one_le_iff.symm.trans (Int.le_ediv_iff_mul_le (by omega))
    rw [h1, Int.add_mul]; omega
theorem eb_bd (p o m : Int) (hp : 1 ≤ p) (ho : o ≤ m) : (eb p o m - 1) * p < m - o ∧ m - o ≤ eb p o m * p := by
  have h0 := eb_nonneg p o m hp
  have h1 := eb_lt p o m hp (eb p o m) h0
  constructor
  · rcases Int.lt_or_le 0 (eb p o m) with h | h
    · have := (eb_lt p o m hp (eb p o m - 1) (by omega)).mp (by omega); omega
    · have e : eb p o m = 0 := by omega
      rw [e]; omega
  · have : ¬ (o + eb p o m * p < m) := fun h => by have := h1.mpr h; omega
    omega
theorem before_eq (p o m : Int) (hp : 1 ≤ p) (hp' : p ≤ 100000) (ho : 0 ≤ o) (ho' : o ≤ 100000) (hm : 0 ≤ m) (hm' : m ≤ 1000000000000) : impl_Clock_edgesBefore.f p o m = some (eb p o m) := by
  unfold impl_Clock_edgesBefore.f eb
  rw [if_neg (by omega), w64 (x := m - o) (by omega) (by omega), w64 (x := m - o + p) (by omega) (by omega), w64 (x := m - o + p - 1) (by omega) (by omega)]
  congr 1
  by_cases h : m ≤ o
  · rw [if_pos h]
    by_cases k : 0 ≤ m - o + p - 1
    · rw [Int.tdiv_eq_ediv_of_nonneg k, Int.ediv_eq_zero_of_lt k (by omega), w64 (by omega) (by omega)]; unfold mx; split <;> omega
    · have : Int.tdiv (m - o + p - 1) p = - (Int.tdiv (-(m - o + p - 1)) p) := by rw [Int.neg_tdiv]; omega
      rw [this, Int.tdiv_eq_ediv_of_nonneg (by omega)]
      have h0 : 0 ≤ (-(m - o + p - 1)) / p := Int.ediv_nonneg (by omega) (by omega)
      have h1 : (-(m - o + p - 1)) / p ≤ -(m - o + p - 1) := Int.ediv_le_self _ (by omega)
      rw [w64 (by omega) (by omega)]
      unfold mx; split <;> omega
  · rw [if_neg h, Int.tdiv_eq_ediv_of_nonneg (by omega)]
    have h0 : 0 ≤ (m - o + p - 1) / p := Int.ediv_nonneg (by omega) (by omega)
    have h1 : (m - o + p - 1) / p ≤ m - o + p - 1 := Int.ediv_le_self _ (by omega)
    rw [w64 (by omega) (by omega)]
    unfold mx; split <;> omega
theorem eb_le (p o m : Int) (hp : 1 ≤ p) (ho : 0 ≤ o) (hm : 0 ≤ m) : eb p o m ≤ m := by
  rcases Int.lt_or_le m (eb p o m) with h | h
  · have := (eb_lt p o m hp m hm).mp h
    have : m * 1 ≤ m * p := Int.mul_le_mul_of_nonneg_left hp hm
    omega
  · exact h
theorem eb_mono (p o m m' : Int) (hp : 1 ≤ p) (h : m ≤ m') : eb p o m ≤ eb p o m' := by
  rcases Int.lt_or_le (eb p o m') (eb p o m) with k | k
  · have h0 := eb_nonneg p o m' hp
    have := (eb_lt p o m hp _ h0).mp k
    have := (eb_lt p o m' hp _ h0).mpr (by omega)
    omega
  · exact k
end Go.Proofs.Ytfoedfigjcmjbaa.L
