/- The pure side of FnBetween: the counts of edges between edges add up to those of the whole time, and differ by at most 1 behind both offsets. No conditions. -/
import Derived.Test.YtfoedfigjcmjbaaA17
import Derived.Test.YtfoedfigjcmjbaaLib
namespace Go.Proofs.Ytfoedfigjcmjbaa.Pure
set_option linter.unusedVariables false
set_option linter.unusedSimpArgs false
open Go.RowKit Go.Proofs.Ytfoedfigjcmjbaa.A Go.Proofs.Ytfoedfigjcmjbaa.L Go.Proofs.YtfoedfigjcmjbaaW.PrintWords Go.Proofs.YtfoedfigjcmjbaaW.PrintLast

namespace FnBetween_
/-- The counts of d steps from the edge i on. -/
def cs (p o p' o' : Int) : Nat → Int → List Int
  | 0, _ => []
  | d + 1, i => (eb p' o' (o + (i + 1) * p) - eb p' o' (o + i * p)) :: cs p o p' o' d (i + 1)
theorem cs_length (p o p' o' : Int) : ∀ (d : Nat) (i : Int), (cs p o p' o' d i).length = d
  | 0, _ => rfl
  | d + 1, i => by simp [cs, cs_length]
theorem cs_sum (p o p' o' : Int) : ∀ (d : Nat) (i : Int), (cs p o p' o' d i).sum = eb p' o' (o + (i + d) * p) - eb p' o' (o + i * p)
  | 0, i => by simp [cs]
  | d + 1, i => by
    simp only [cs, List.sum_cons, cs_sum p o p' o' d (i + 1)]
    rw [show i + 1 + (d : Int) = i + ((d + 1 : Nat) : Int) by omega]; omega
theorem cs_bound (p o p' o' : Int) (hp : 1 ≤ p) (hp' : 1 ≤ p') (ho : 0 ≤ o) (ho' : 0 ≤ o') : ∀ (d : Nat) (i : Int), 0 ≤ i → i + d ≤ 100 → p ≤ 20 → o ≤ 29 → ∀ x ∈ cs p o p' o' d i, 0 ≤ x ∧ x ≤ 10000
  | 0, i, _, _, _, _, x, h => by simp [cs] at h
  | d + 1, i, hi, hd, h20, h29, x, h => by
    simp only [cs, List.mem_cons] at h
    rcases h with rfl | h
    · have a0 := mul_bd hi (by omega : i ≤ 100) (by omega : 0 ≤ p) h20
      have a1 := mul_bd (by omega : 0 ≤ i + 1) (by omega : i + 1 ≤ 100) (by omega : 0 ≤ p) h20
      have a2 : (i + 1) * p = i * p + p := by rw [Int.add_mul]; omega
      have := eb_mono p' o' (o + i * p) (o + (i + 1) * p) hp' (by omega)
      have := eb_nonneg p' o' (o + i * p) hp'
      have := eb_le p' o' (o + (i + 1) * p) hp' ho' (by omega)
      omega
    · exact cs_bound p o p' o' hp hp' ho ho' d (i + 1) (by omega) (by omega) h20 h29 x h
theorem near (P p o m : Int) (hp : 1 ≤ p) (hP : 0 ≤ P) (ho : o ≤ m) : P / p ≤ eb p o (m + P) - eb p o m ∧ eb p o (m + P) - eb p o m ≤ P / p + 1 := by
  have ⟨a1, a2⟩ := eb_bd p o m hp ho
  have ⟨b1, b2⟩ := eb_bd p o (m + P) hp (by omega)
  have q1 : P / p * p ≤ P := Int.ediv_mul_le P (by omega)
  have q2 : P < (P / p + 1) * p := Int.lt_ediv_add_one_mul_self P (by omega)
  generalize P / p = q at *
  generalize eb p o m = a at *
  generalize eb p o (m + P) = b at *
  have e1 : (b - 1) * p = b * p - p := by rw [Int.sub_mul]; omega
  have e2 : (a - 1) * p = a * p - p := by rw [Int.sub_mul]; omega
  have e3 : (q + 1) * p = q * p + p := by rw [Int.add_mul]; omega
  have h1 : q * p < (b - a + 1) * p := by rw [Int.add_mul, Int.sub_mul]; omega
  have h2 : (b - a - 1) * p < (q + 1) * p := by rw [Int.sub_mul, Int.sub_mul, e3]; omega
  have h3 := Int.lt_of_mul_lt_mul_right h1 (by omega)
  have h4 := Int.lt_of_mul_lt_mul_right h2 (by omega)
  omega
theorem cs_near (p o p' o' : Int) (hp : 1 ≤ p) (hp' : 1 ≤ p') : ∀ (d : Nat) (i : Int), 0 ≤ i → o' ≤ o + i * p → ∀ x ∈ cs p o p' o' d i, p / p' ≤ x ∧ x ≤ p / p' + 1
  | 0, i, _, _, x, h => by simp [cs] at h
  | d + 1, i, hi, hd, x, h => by
    have e : o + (i + 1) * p = o + i * p + p := by rw [Int.add_mul]; omega
    simp only [cs, List.mem_cons] at h
    rcases h with rfl | h
    · rw [e]; exact near p p' o' _ hp' (by omega) hd
    · exact cs_near p o p' o' hp hp' d (i + 1) (by omega) (by omega) x h

theorem counts_loop (p o p' o' x2 x3 : Int) (hp : 1 ≤ p) (h20 : p ≤ 20) (ho : 0 ≤ o) (h29 : o ≤ 29) (hp' : 1 ≤ p') (h20' : p' ≤ 20) (ho' : 0 ≤ o') (h29' : o' ≤ 29) (hx : 0 ≤ x2) (hx2 : x2 ≤ 19) (hx3 : 1 ≤ x3) (hx3' : x3 ≤ 12) :
    ∀ (d k : Nat) (i : Int) (acc : List Int), x2 ≤ i → x2 + x3 - i = d → 2 * d < k → acc.length + d ≤ 12 →
      impl_CountsBetween.l0 k x2 x3 acc i p o p' o' = some (acc ++ cs p o p' o' d i, true) := by
  intro d
  induction d with
  | zero =>
    intro k i acc hi hd hk hl
    obtain ⟨k, rfl⟩ : ∃ m, k = m + 1 := ⟨k - 1, by omega⟩
    simp only [impl_CountsBetween.l0]; rw [w64 (x := x2 + x3) (by omega) (by omega), if_neg (by omega)]; simp [cs]
  | succ d ih =>
    intro k i acc hi hd hk hl
    obtain ⟨k, rfl⟩ : ∃ m, k = m + 1 + 1 := ⟨k - 2, by omega⟩
    have a0 := mul_bd (by omega : 0 ≤ i) (by omega : i ≤ 31) (by omega : 0 ≤ p) h20
    have a1 := mul_bd (by omega : 0 ≤ i + 1) (by omega : i + 1 ≤ 32) (by omega : 0 ≤ p) h20
    simp only [impl_CountsBetween.l0]; rw [w64 (x := x2 + x3) (by omega) (by omega), if_pos (by omega), w64 (x := i + 1) (by omega) (by omega)]
    rw [edge_eq p o i hp (by omega) ho (by omega) (by omega) (by omega) (by omega), edge_eq p o (i + 1) hp (by omega) ho (by omega) (by omega) (by omega) (by omega)]
    simp only [Option.bind_some, if_true, impl_CountsBetween.j2]
    rw [if_neg (by simp), before_eq p' o' _ hp' (by omega) ho' (by omega) (by omega) (by omega), before_eq p' o' _ hp' (by omega) ho' (by omega) (by omega) (by omega)]
    simp only [Option.bind_some]
    have e0 := eb_nonneg p' o' (o + i * p) hp'
    have e1 := eb_nonneg p' o' (o + (i + 1) * p) hp'
    have e2 := eb_le p' o' (o + i * p) hp' ho' (by omega)
    have e3 := eb_le p' o' (o + (i + 1) * p) hp' ho' (by omega)
    rw [if_pos (by omega), w64 (x := eb p' o' _ - eb p' o' _) (by omega) (by omega)]
    rw [w64 (x := i + 1) (by omega) (by omega)]
    rw [ih k (i + 1) _ (by omega) (by omega) (by omega) (by simp; omega)]
    simp [cs]

theorem law_loop (from_ all o' p' q : Int) (hq : 0 ≤ q) (hq' : q ≤ 1000) : ∀ (suf pre : List Int) (k : Nat) (sum low high i : Int), i = pre.length → (pre ++ suf).length ≤ 100 → sum + suf.sum = all → (∀ x ∈ suf, 0 ≤ x ∧ x ≤ 10000) → 0 ≤ sum → sum ≤ 10000 * pre.length →
    (from_ < o' ∨ (∀ x ∈ suf, q ≤ x ∧ x ≤ q + 1) ∧ q ≤ low ∧ low ≤ q + 1 ∧ q ≤ high ∧ high ≤ q + 1) → suf.length < k → laws_FnBetween.l0 k (pre ++ suf) from_ all sum low high i p' o' = some true
  | [], pre, k, sum, low, high, i, hi, hl, hs, hb, s0, s1, hn, hk => by
    obtain ⟨k, rfl⟩ : ∃ m, k = m + 1 := ⟨k - 1, by omega⟩
    simp only [laws_FnBetween.l0]; rw [if_neg (by simp [hi]), if_pos (by simpa using hs)]
    rcases hn with hn | ⟨_, a, b, c, d⟩
    · rw [if_pos hn]
    · split
      · rfl
      · rw [w64 (by omega) (by omega)]; simp; omega
  | x :: suf, pre, k, sum, low, high, i, hi, hl, hs, hb, s0, s1, hn, hk => by
    obtain ⟨k, rfl⟩ : ∃ m, k = m + 1 := ⟨k - 1, by omega⟩
    simp only [List.length_append, List.length_cons] at hl hk
    have hr : rd (pre ++ x :: suf) i = x := by subst hi; simp [rd]
    have hx := hb x (by simp)
    simp only [laws_FnBetween.l0]; rw [if_pos (by simp [hi]; omega), if_pos (by omega), hr, w64 (x := sum + x) (by omega) (by omega), w64 (x := i + 1) (by omega) (by omega)]
    have step : ∀ low' high', (from_ < o' ∨ (∀ x ∈ suf, q ≤ x ∧ x ≤ q + 1) ∧ q ≤ low' ∧ low' ≤ q + 1 ∧ q ≤ high' ∧ high' ≤ q + 1) → laws_FnBetween.l0 k (pre ++ x :: suf) from_ all (sum + x) low' high' (i + 1) p' o' = some true := by
      intro low' high' h'
      have := law_loop from_ all o' p' q hq hq' suf (pre ++ [x]) k (sum + x) low' high' (i + 1) (by simp [hi]) (by simp; omega) (by simp at hs; omega) (fun y hy => hb y (by simp [hy])) (by omega) (by simp; omega) h' (by omega)
      simpa using this
    have hn2 : from_ < o' ∨ (∀ x ∈ suf, q ≤ x ∧ x ≤ q + 1) ∧ q ≤ low ∧ low ≤ q + 1 ∧ q ≤ high ∧ high ≤ q + 1 ∧ q ≤ x ∧ x ≤ q + 1 := by
      rcases hn with hn | ⟨ha, b1, b2, b3, b4⟩
      · exact .inl hn
      · exact .inr ⟨fun y hy => ha y (by simp [hy]), b1, b2, b3, b4, ha x (by simp)⟩
    split <;> split <;> refine step _ _ (hn2.imp_right fun ⟨ha, b1, b2, b3, b4, b5, b6⟩ => ⟨ha, ?_, ?_, ?_, ?_⟩) <;> assumption
end FnBetween_
open FnBetween_

theorem FnBetween : laws_FnBetween.Pure := by
  intro l0 l1 _ _ u0 _ _ u1
  refine ⟨40, ?_⟩
  unfold laws_FnBetween.f
  have hlong : ∃ b, laws_r8Long.f l0 l1 = some b := by unfold laws_r8Long.f; split <;> exact ⟨_, rfl⟩
  obtain ⟨b, hb⟩ := hlong
  rw [hb]; simp only [Option.bind_some]
  cases b with
  | true => rfl
  | false =>
  simp only [Bool.false_eq_true, if_false]
  obtain ⟨p, o, hc, p1, p2, o1, o2⟩ := clock_eq u0
  obtain ⟨p', o', hc', p1', p2', o1', o2'⟩ := clock_eq u1
  obtain ⟨first, hf, f0, f1⟩ := r8At_eq u1 40 20 (by omega) (by omega)
  obtain ⟨n, hn, n0, n1⟩ := r8At_eq u1 41 12 (by omega) (by omega)
  rw [hc]; simp only [Option.bind_some]
  rw [hc']; simp only [Option.bind_some]
  rw [hf]; simp only [Option.bind_some]
  rw [hn]; simp only [Option.bind_some]
  rw [w64 (x := 1 + n) (by omega) (by omega), w64 (x := first + (1 + n)) (by omega) (by omega)]
  have hcb : impl_CountsBetween.f 40 p o p' o' first (1 + n) = some (cs p o p' o' (1 + n).toNat first, true) := by
    unfold impl_CountsBetween.f
    rw [valid_eq, valid_eq, moment_eq, within_eq]; simp only [Option.bind_some]
    rw [if_pos (decide_eq_true (by omega)), if_pos (decide_eq_true (by omega)), if_pos (decide_eq_true (by omega)), decide_eq_true (by omega)]
    simp only [Bool.not_true, impl_CountsBetween.j0, Bool.false_eq_true, if_false]
    rw [counts_loop p o p' o' first (1 + n) p1 p2 o1 o2 p1' p2' o1' o2' (by omega) (by omega) (by omega) (by omega) (1 + n).toNat 39 first [] (by omega) (by omega) (by omega) (by simp; omega)]
    rfl
  have a0 := mul_bd f0 (by omega : first ≤ 31) (by omega : 0 ≤ p) p2
  have a1 := mul_bd (by omega : 0 ≤ first + (1 + n)) (by omega : first + (1 + n) ≤ 31) (by omega : 0 ≤ p) p2
  have a2 : (first + (1 + n)) * p = first * p + (1 + n) * p := by rw [Int.add_mul]
  have a3 := Int.mul_nonneg (by omega : 0 ≤ 1 + n) (by omega : 0 ≤ p)
  rw [hcb]; simp only [Option.bind_some]
  rw [edge_eq p o first p1 (by omega) o1 (by omega) (by omega) (by omega) (by omega), edge_eq p o (first + (1 + n)) p1 (by omega) o1 (by omega) (by omega) (by omega) (by omega)]
  simp only [Option.bind_some]
  have e0 := eb_nonneg p' o' (o + first * p) p1'
  have e1 := eb_nonneg p' o' (o + (first + (1 + n)) * p) p1'
  have e2 := eb_le p' o' (o + first * p) p1' o1' (by omega)
  have e3 := eb_le p' o' (o + (first + (1 + n)) * p) p1' o1' (by omega)
  have hci : impl_CountEdgesIn.f 40 p' o' (o + first * p) (o + (first + (1 + n)) * p) = some (eb p' o' (o + (first + (1 + n)) * p) - eb p' o' (o + first * p), true) := by
    unfold impl_CountEdgesIn.f
    rw [valid_eq, moment_eq, moment_eq]; simp only [Option.bind_some]
    rw [if_pos (decide_eq_true (by omega)), if_pos (decide_eq_true (by omega)), if_pos (decide_eq_true (by omega)), decide_eq_false (by omega)]
    simp only [impl_CountEdgesIn.j0, Bool.false_eq_true, if_false]
    rw [before_eq p' o' _ p1' (by omega) o1' (by omega) (by omega) (by omega), before_eq p' o' _ p1' (by omega) o1' (by omega) (by omega) (by omega)]
    simp only [Option.bind_some]
    rw [w64 (by omega) (by omega)]
  rw [hci]; simp only [Option.bind_some, if_true]
  have hlen := cs_length p o p' o' (1 + n).toNat first
  have hl2 : ((cs p o p' o' (1 + n).toNat first).length : Int) = 1 + n := by omega
  rw [hl2]
  simp only [bne_self_eq_false, laws_FnBetween.j0, Bool.false_eq_true, if_false]
  rw [hl2, if_pos (by omega)]
  have hsum := cs_sum p o p' o' (1 + n).toNat first
  rw [show first + ((1 + n).toNat : Int) = first + (1 + n) by omega] at hsum
  have hbd := cs_bound p o p' o' p1 p1' o1 o1' (1 + n).toNat first f0 (by omega) p2 o2
  have hnear := fun h => cs_near p o p' o' p1 p1' (1 + n).toNat first f0 h
  have q0 : 0 ≤ p / p' := Int.ediv_nonneg (by omega) (by omega)
  have q1 : p / p' ≤ p := Int.ediv_le_self _ (by omega)
  generalize cs p o p' o' (1 + n).toNat first = l at *
  have hmem : rd l 0 ∈ l := by
    cases l with
    | nil => simp at hlen; omega
    | cons x l => simp [rd]
  have := law_loop (o + first * p) (eb p' o' (o + (first + (1 + n)) * p) - eb p' o' (o + first * p)) o' p' (p / p') q0 (by omega) l [] 39 0 (rd l 0) (rd l 0) 0 rfl (by simp; omega) (by omega) hbd (by omega) (by simp)
    (by
      rcases Int.lt_or_le (o + first * p) o' with h | h
      · exact .inl h
      · exact .inr ⟨hnear h, (hnear h _ hmem).1, (hnear h _ hmem).2, (hnear h _ hmem).1, (hnear h _ hmem).2⟩) (by omega)
  simpa using this

end Go.Proofs.Ytfoedfigjcmjbaa.Pure
