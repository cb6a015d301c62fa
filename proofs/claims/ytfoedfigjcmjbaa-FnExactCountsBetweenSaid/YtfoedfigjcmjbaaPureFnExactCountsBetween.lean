/- The pure side of FnExactCountsBetween: for all arguments the program's CountsBetween and the reference's answer alike, and the marks that are written into the result are read back. No conditions. -/
import Derived.Test.YtfoedfigjcmjbaaAPureOfFnExactCountsBetween
import Derived.Test.YtfoedfigjcmjbaaLib
import Derived.Test.YtfoedfigjcmjbaaMarksInt
namespace Go.Proofs.Ytfoedfigjcmjbaa.Pure
set_option linter.unusedVariables false
set_option linter.unusedSimpArgs false
open Go.RowKit Go.Proofs.Ytfoedfigjcmjbaa.A Go.Proofs.Ytfoedfigjcmjbaa.L Go.Proofs.YtfoedfigjcmjbaaW.PrintWords Go.Proofs.YtfoedfigjcmjbaaW.PrintLast Go.Proofs.YtfoedfigjcmjbaaW.PrintMore
namespace CountsBetween_
theorem in_eq (a b c : Int) : spec_l00In.f a b c = some (decide (b ≤ a ∧ a ≤ c)) := by
  unfold spec_l00In.f
  by_cases h : a ≥ b
  · rw [if_pos h]; have h' : b ≤ a := h; simp [h']
  · rw [if_neg h]; have h' : ¬ b ≤ a := h; simp [h']
theorem is_eq (p o : Int) : spec_l10Is.f p o = impl_ValidClock.f p o := by
  rw [valid_eq]; unfold spec_l10Is.f
  rw [in_eq, in_eq]; simp only [Option.bind_some]
  by_cases h : 1 ≤ p ∧ p ≤ 100000 <;> by_cases k : 0 ≤ o ∧ o ≤ 100000 <;> simp [h, k]
/-- An edge, as both tell it. -/
def edge (p o i : Int) : Int × Bool := if (0 ≤ i ∧ i ≤ 1000000000000) ∧ o + i * p ≤ 1000000000000 then (o + i * p, true) else (0, false)
theorem edge_some (p o i : Int) (h : (edge p o i).2 = true) : edge p o i = (o + i * p, true) ∧ 0 ≤ i ∧ i ≤ 1000000000000 ∧ o + i * p ≤ 1000000000000 := by
  unfold edge at h ⊢
  split
  · rename_i c; exact ⟨rfl, c.1.1, c.1.2, c.2⟩
  · rename_i c; rw [if_neg c] at h; simp at h
theorem impl_edge (p o i : Int) (hp : 1 ≤ p) (hp' : p ≤ 100000) (ho : 0 ≤ o) (ho' : o ≤ 100000) (hi : 0 ≤ i) (hi' : i ≤ 2000000000000) : impl_EdgeAt.f p o i = some (edge p o i) := by
  have hb := mul_bd hi hi' (by omega : 0 ≤ p) hp'
  unfold impl_EdgeAt.f edge
  rw [valid_eq, moment_eq, w64 (x := i * p) (by omega) (by omega), w64 (by omega) (by omega), moment_eq]
  simp only [Option.bind_some]
  rw [if_pos (decide_eq_true ⟨⟨hp, hp'⟩, ho, ho'⟩)]
  by_cases c : i ≤ 1000000000000
  · rw [if_pos (decide_eq_true ⟨hi, c⟩)]
    by_cases d : o + i * p ≤ 1000000000000
    · rw [if_pos (decide_eq_true ⟨by omega, d⟩), if_pos ⟨⟨hi, c⟩, d⟩]
    · rw [if_neg (by simp [d]), if_neg (by simp [d])]
  · rw [if_neg (by simp [c]), if_neg (by simp [c])]
theorem spec_edge (p o i : Int) (hp : 1 ≤ p) (hp' : p ≤ 100000) (ho : 0 ≤ o) (ho' : o ≤ 100000) (hi : 0 ≤ i) (hi' : i ≤ 2000000000000) : spec_l10Edge.f p o i = some (edge p o i) := by
  have hb := mul_bd hi hi' (by omega : 0 ≤ p) hp'
  unfold spec_l10Edge.f edge
  have q0 : 0 ≤ (1000000000000 - o) / p := Int.ediv_nonneg (by omega) (by omega)
  have q1 : (1000000000000 - o) / p ≤ 1000000000000 - o := Int.ediv_le_self _ (by omega)
  rw [in_eq, w64 (x := i * p) (by omega) (by omega), w64 (x := o + i * p) (by omega) (by omega), w64 (x := 1000000000000 - o) (by omega) (by omega), Int.tdiv_eq_ediv_of_nonneg (by omega), w64 (by omega) (by omega)]
  simp only [Option.bind_some]
  have key : i ≤ (1000000000000 - o) / p ↔ i * p ≤ 1000000000000 - o := Int.le_ediv_iff_mul_le (by omega)
  by_cases c : i ≤ 1000000000000
  · rw [if_pos (decide_eq_true ⟨hi, c⟩), if_neg (by omega)]
    by_cases d : o + i * p ≤ 1000000000000
    · rw [if_neg (by have := key.mpr (by omega); omega), if_pos ⟨⟨hi, c⟩, d⟩]
    · rw [if_pos (by have := fun h => key.mp h; omega), if_neg (by simp [d])]
  · rw [if_neg (by simp [c]), if_neg (by simp [c])]
theorem spec_before (p o m : Int) (hp : 1 ≤ p) (hp' : p ≤ 100000) (ho : 0 ≤ o) (ho' : o ≤ 100000) (hm : 0 ≤ m) (hm' : m ≤ 1000000000000) : spec_l10Before.f p o m = some (eb p o m) := by
  unfold spec_l10Before.f eb
  by_cases h : m ≤ o
  · rw [if_pos h, if_pos h]
  · rw [if_neg h, if_neg h, if_neg (by omega), w64 (x := m - o) (by omega) (by omega), w64 (x := m - o - 1) (by omega) (by omega), Int.tdiv_eq_ediv_of_nonneg (by omega)]
    have q0 : 0 ≤ (m - o - 1) / p := Int.ediv_nonneg (by omega) (by omega)
    have q1 : (m - o - 1) / p ≤ m - o - 1 := Int.ediv_le_self _ (by omega)
    rw [w64 (x := (m - o - 1) / p) (by omega) (by omega), w64 (by omega) (by omega)]
    congr 1
    rw [show m - o + p - 1 = m - o - 1 + 1 * p by omega, Int.add_mul_ediv_right _ _ (by omega)]
theorem lock (p o p' o' x2 x3 : Int) (hp : 1 ≤ p) (h20 : p ≤ 100000) (ho : 0 ≤ o) (h29 : o ≤ 100000) (hp' : 1 ≤ p') (h20' : p' ≤ 100000) (ho' : 0 ≤ o') (h29' : o' ≤ 100000) (hx : 0 ≤ x2) (hx2 : x2 ≤ 1000000000000) (hx3 : 0 ≤ x3) (hx3' : x3 ≤ 400) :
    ∀ (k : Nat) (i : Int) (acc : List Int), 0 ≤ i → i ≤ x3 → impl_CountsBetween.l0 k x2 x3 acc (x2 + i) p o p' o' = spec_CountsBetween.l0 k x2 x3 acc i p o p' o' := by
  intro k
  induction k using Nat.strongRecOn with
  | _ k ih =>
  intro i acc h0 h1
  match k, ih with
  | 0, _ => simp only [impl_CountsBetween.l0, spec_CountsBetween.l0]
  | k + 1, ih =>
    simp only [impl_CountsBetween.l0, spec_CountsBetween.l0]
    rw [w64 (x := x2 + x3) (by omega) (by omega), w64 (x := x2 + i) (by omega) (by omega), w64 (x := x2 + i + 1) (by omega) (by omega)]
    by_cases c : i < x3
    · rw [if_pos (by omega), if_pos c, impl_edge p o _ hp h20 ho h29 (by omega) (by omega), impl_edge p o _ hp h20 ho h29 (by omega) (by omega), spec_edge p o _ hp h20 ho h29 (by omega) (by omega), spec_edge p o _ hp h20 ho h29 (by omega) (by omega)]
      simp only [Option.bind_some]
      have bad : ∀ (b c d e : Int), impl_CountsBetween.j2 k x2 x3 acc b c d true p o p' o' = spec_CountsBetween.j2 k x2 x3 acc e c d true p o p' o' := by
        intro b c d e
        cases k <;> simp [impl_CountsBetween.j2, spec_CountsBetween.j2]
      by_cases e1 : (edge p o (x2 + i)).2 = true
      · rw [if_pos e1, if_pos e1]
        by_cases e2 : (edge p o (x2 + i + 1)).2 = true
        · obtain ⟨r1, a0, a1, a2⟩ := edge_some _ _ _ e1
          obtain ⟨r2, b0, b1, b2⟩ := edge_some _ _ _ e2
          have m0 := Int.mul_nonneg a0 (by omega : 0 ≤ p)
          have m1 := Int.mul_nonneg b0 (by omega : 0 ≤ p)
          rw [r1, r2]
          match k, ih with
          | 0, _ => simp [impl_CountsBetween.j2, spec_CountsBetween.j2]
          | k + 1, ih =>
            simp only [impl_CountsBetween.j2, spec_CountsBetween.j2]
            rw [if_neg (by simp), if_neg (by simp), before_eq p' o' _ hp' h20' ho' h29' (by omega) (by omega), before_eq p' o' _ hp' h20' ho' h29' (by omega) (by omega), spec_before p' o' _ hp' h20' ho' h29' (by omega) (by omega), spec_before p' o' _ hp' h20' ho' h29' (by omega) (by omega)]
            simp only [Option.bind_some]
            rw [w64 (x := i + 1) (by omega) (by omega), w64 (x := x2 + i + 1) (by omega) (by omega), show x2 + i + 1 = x2 + (i + 1) by omega, ih k (by omega) (i + 1) _ (by omega) (by omega)]
        · have e2' : (edge p o (x2 + i + 1)).2 = false := by simpa using e2
          rw [e2']; exact bad _ _ _ _
      · rw [if_neg e1, if_neg e1]; exact bad _ _ _ _
    · rw [if_neg (by omega), if_neg c]
theorem f_eq (k : Nat) (p o p' o' x2 x3 : Int) : impl_CountsBetween.f k p o p' o' x2 x3 = spec_CountsBetween.f k p o p' o' x2 x3 := by
  have bad : impl_CountsBetween.j0 k x2 x3 true p o p' o' = spec_CountsBetween.j0 k x2 x3 true p o p' o' := by
    cases k <;> simp [impl_CountsBetween.j0, spec_CountsBetween.j0]
  unfold impl_CountsBetween.f spec_CountsBetween.f
  rw [is_eq, is_eq, valid_eq, valid_eq, moment_eq, within_eq, in_eq, in_eq]; simp only [Option.bind_some]
  by_cases c1 : (1 ≤ p ∧ p ≤ 100000) ∧ (0 ≤ o ∧ o ≤ 100000)
  · rw [if_pos (decide_eq_true c1), if_pos (decide_eq_true c1)]
    by_cases c2 : (1 ≤ p' ∧ p' ≤ 100000) ∧ (0 ≤ o' ∧ o' ≤ 100000)
    · rw [if_pos (decide_eq_true c2), if_pos (decide_eq_true c2)]
      by_cases c3 : 0 ≤ x2 ∧ x2 ≤ 1000000000000
      · rw [if_pos (decide_eq_true c3), if_pos (decide_eq_true c3)]
        by_cases c4 : 0 ≤ x3 ∧ x3 ≤ 400
        · rw [decide_eq_true c4]
          cases k with
          | zero => simp [impl_CountsBetween.j0, spec_CountsBetween.j0]
          | succ k =>
            simp only [impl_CountsBetween.j0, spec_CountsBetween.j0]
            rw [if_neg (by simp), if_neg (by simp)]
            have := lock p o p' o' x2 x3 c1.1.1 c1.1.2 c1.2.1 c1.2.2 c2.1.1 c2.1.2 c2.2.1 c2.2.2 c3.1 c3.2 c4.1 c4.2 k 0 [] (by omega) (by omega)
            rw [← this, show x2 + 0 = x2 by omega]
        · rw [decide_eq_false c4]; exact bad
      · rw [if_neg (by simp [c3]), if_neg (by simp [c3])]; exact bad
    · rw [if_neg (by simp [c2]), if_neg (by simp [c2])]; exact bad
  · rw [if_neg (by simp [c1]), if_neg (by simp [c1])]; exact bad
theorem loop_total (p o p' o' x2 x3 : Int) (hp : 1 ≤ p) (h20 : p ≤ 100000) (ho : 0 ≤ o) (h29 : o ≤ 100000) (hp' : 1 ≤ p') (h20' : p' ≤ 100000) (ho' : 0 ≤ o') (h29' : o' ≤ 100000) (hx : 0 ≤ x2) (hx2 : x2 ≤ 1000000000000) (hx3 : 0 ≤ x3) (hx3' : x3 ≤ 400) :
    ∀ (d k : Nat) (i : Int) (acc : List Int), 0 ≤ i → x3 - i = d → 2 * d < k → acc.length + d ≤ 400 → ∃ l b, spec_CountsBetween.l0 k x2 x3 acc i p o p' o' = some (l, b) ∧ l.length ≤ 400 := by
  intro d
  induction d with
  | zero =>
    intro k i acc h0 hd hk hl
    obtain ⟨k, rfl⟩ : ∃ m, k = m + 1 := ⟨k - 1, by omega⟩
    refine ⟨acc, true, ?_, by omega⟩
    simp only [spec_CountsBetween.l0]; rw [if_neg (by omega)]
  | succ d ih =>
    intro k i acc h0 hd hk hl
    obtain ⟨k, rfl⟩ : ∃ m, k = m + 1 + 1 := ⟨k - 2, by omega⟩
    simp only [spec_CountsBetween.l0]
    rw [if_pos (by omega), w64 (x := x2 + i) (by omega) (by omega), w64 (x := x2 + i + 1) (by omega) (by omega), spec_edge p o _ hp h20 ho h29 (by omega) (by omega), spec_edge p o _ hp h20 ho h29 (by omega) (by omega)]
    simp only [Option.bind_some]
    have bad : ∀ (c d e : Int), ∃ l b, spec_CountsBetween.j2 (k + 1) x2 x3 acc e c d true p o p' o' = some (l, b) ∧ l.length ≤ 400 := fun c d e => ⟨[], false, by simp [spec_CountsBetween.j2], by simp⟩
    by_cases e1 : (edge p o (x2 + i)).2 = true
    · rw [if_pos e1]
      by_cases e2 : (edge p o (x2 + i + 1)).2 = true
      · obtain ⟨r1, a0, a1, a2⟩ := edge_some _ _ _ e1
        obtain ⟨r2, b0, b1, b2⟩ := edge_some _ _ _ e2
        have m0 := Int.mul_nonneg a0 (by omega : 0 ≤ p)
        have m1 := Int.mul_nonneg b0 (by omega : 0 ≤ p)
        rw [r1, r2]
        simp only [spec_CountsBetween.j2]
        rw [if_neg (by simp), spec_before p' o' _ hp' h20' ho' h29' (by omega) (by omega), spec_before p' o' _ hp' h20' ho' h29' (by omega) (by omega)]
        simp only [Option.bind_some]
        rw [if_pos (by omega), w64 (x := i + 1) (by omega) (by omega)]
        exact ih k (i + 1) _ (by omega) (by omega) (by omega) (by simp; omega)
      · have e2' : (edge p o (x2 + i + 1)).2 = false := by simpa using e2
        rw [e2']; exact bad _ _ _
    · rw [if_neg e1]; exact bad _ _ _
theorem total (k : Nat) (hk : 1000 ≤ k) (p o p' o' x2 x3 : Int) : ∃ l b, spec_CountsBetween.f k p o p' o' x2 x3 = some (l, b) ∧ l.length ≤ 400 := by
  obtain ⟨k, rfl⟩ : ∃ m, k = m + 1 := ⟨k - 1, by omega⟩
  have bad : ∃ l b, spec_CountsBetween.j0 (k + 1) x2 x3 true p o p' o' = some (l, b) ∧ l.length ≤ 400 := ⟨[], false, by simp [spec_CountsBetween.j0], by simp⟩
  unfold spec_CountsBetween.f
  rw [is_eq, is_eq, valid_eq, valid_eq, in_eq, in_eq]; simp only [Option.bind_some]
  by_cases c1 : (1 ≤ p ∧ p ≤ 100000) ∧ (0 ≤ o ∧ o ≤ 100000)
  · rw [if_pos (decide_eq_true c1)]
    by_cases c2 : (1 ≤ p' ∧ p' ≤ 100000) ∧ (0 ≤ o' ∧ o' ≤ 100000)
    · rw [if_pos (decide_eq_true c2)]
      by_cases c3 : 0 ≤ x2 ∧ x2 ≤ 1000000000000
      · rw [if_pos (decide_eq_true c3)]
        by_cases c4 : 0 ≤ x3 ∧ x3 ≤ 400
        · rw [decide_eq_true c4]
          simp only [spec_CountsBetween.j0]
          rw [if_neg (by simp)]
          exact loop_total p o p' o' x2 x3 c1.1.1 c1.1.2 c1.2.1 c1.2.2 c2.1.1 c2.1.2 c2.2.1 c2.2.2 c3.1 c3.2 c4.1 c4.2 x3.toNat k 0 [] (by omega) (by omega) (by omega) (by simp; omega)
        · rw [decide_eq_false c4]; exact bad
      · rw [if_neg (by simp [c3])]; exact bad
    · rw [if_neg (by simp [c2])]; exact bad
  · rw [if_neg (by simp [c1])]; exact bad
end CountsBetween_
open CountsBetween_

theorem FnExactCountsBetween : laws_FnExactCountsBetween.Pure := by
  intro a b x2 x3 _ _ _ _
  obtain ⟨l, r, h0, hl⟩ := total 1001 (by omega) a.f0 a.f1 b.f0 b.f1 x2 x3
  have h1 : spec_CountsBetween.f 1002 a.f0 a.f1 b.f0 b.f1 x2 x3 = some (l, r) := at_rounds (g := fun k => spec_CountsBetween.f k a.f0 a.f1 b.f0 b.f1 x2 x3) (fun k => spec_CountsBetween.mono _ _ _ _ _ _ k) (k := 1001) (k' := 1002) (by omega) h0
  refine ⟨1002, ?_⟩
  unfold laws_FnExactCountsBetween.f
  simp only [laws_toClock.f, Option.bind_some]
  rw [f_eq, h1]; simp only [Option.bind_some]
  rw [MarksInt.eq_self l (by omega) 1002 (by omega)]; simp only [Option.bind_some, if_true]
  simp only [laws_FnExactCountsBetween.j0]
  rw [if_neg (by simp), MarksInt.mark_eq l (by omega) 1001 (by omega)]; simp only [Option.bind_some]
  rw [MarksInt.held_eq l (by omega) 1001 (by omega)]; simp only [Option.bind_some]
  rw [if_neg (by omega)]; simp only [if_true, laws_toClock.f, Option.bind_some]
  rw [f_eq, h0]; simp only [Option.bind_some]
  rw [MarksInt.eq_self l (by omega) 1001 (by omega)]; simp only [Option.bind_some, if_true]
  simp only [laws_FnExactCountsBetween.j1]
  rw [if_neg (by simp), MarksInt.held_eq l (by omega) 1000 (by omega)]; simp only [Option.bind_some]
  rw [if_neg (by omega)]; simp only [if_true]

end Go.Proofs.Ytfoedfigjcmjbaa.Pure
