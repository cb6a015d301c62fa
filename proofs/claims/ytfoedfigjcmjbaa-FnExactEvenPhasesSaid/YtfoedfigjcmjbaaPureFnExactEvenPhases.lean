/- The pure side of FnExactEvenPhases: for all arguments the program's EvenPhases and the reference's answer alike, and the marks that are written into the result are read back. No conditions. -/
import Derived.Test.YtfoedfigjcmjbaaA9
namespace Go.Proofs.Ytfoedfigjcmjbaa.Pure
set_option linter.unusedVariables false
set_option linter.unusedSimpArgs false
open Go.RowKit Go.Proofs.Ytfoedfigjcmjbaa.A Go.Proofs.YtfoedfigjcmjbaaW.PrintWords Go.Proofs.YtfoedfigjcmjbaaW.PrintLast

theorem w64 {x : Int} (h1 : -9223372036854775808 ≤ x) (h2 : x ≤ 9223372036854775807) : wrap64 x = x := by unfold wrap64; omega

theorem within_eq (a b c : Int) : impl_within.f a b c = some (decide (b ≤ a ∧ a ≤ c)) := by
  unfold impl_within.f
  by_cases h : a ≥ b
  · rw [if_pos h]; have h' : b ≤ a := h; simp [h']
  · rw [if_neg h]; have h' : ¬ b ≤ a := h; simp [h']
theorem in_eq (a b c : Int) : spec_l00In.f a b c = some (decide (b ≤ a ∧ a ≤ c)) := by
  unfold spec_l00In.f
  by_cases h : a ≥ b
  · rw [if_pos h]; have h' : b ≤ a := h; simp [h']
  · rw [if_neg h]; have h' : ¬ b ≤ a := h; simp [h']

theorem loop_eq (x0 x1 : Int) : ∀ (k : Nat) (acc : List S31) (i : Int), impl_EvenPhases.l0 k x0 x1 acc x1 i = spec_EvenPhases.l0 k x0 x1 acc i
  | 0, _, _ => rfl
  | k + 1, acc, i => by simp only [impl_EvenPhases.l0, spec_EvenPhases.l0, loop_eq x0 x1 k]
theorem j_eq (x0 x1 : Int) (b : Bool) : ∀ k : Nat, impl_EvenPhases.j0 k x0 x1 b = spec_EvenPhases.j0 k x0 x1 b
  | 0 => rfl
  | k + 1 => by simp only [impl_EvenPhases.j0, spec_EvenPhases.j0, loop_eq]
theorem f_eq (k : Nat) (a0 a1 : Int) : impl_EvenPhases.f k a0 a1 = spec_EvenPhases.f k a0 a1 := by
  unfold impl_EvenPhases.f spec_EvenPhases.f
  simp only [within_eq, in_eq, Option.bind_some, j_eq]

theorem spec_loop (x0 x1 : Int) (h0 : 1 ≤ x0) (h0' : x0 ≤ 100000) (h1 : 1 ≤ x1) (h1' : x1 ≤ 6) : ∀ (d k : Nat) (i : Int) (acc : List S31), 0 ≤ i → i ≤ x1 → x1 - i = d → d < k → acc.length + d ≤ 6 →
    ∃ l, spec_EvenPhases.l0 k x0 x1 acc i = some (l, true) ∧ l.length ≤ 6 := by
  intro d
  induction d with
  | zero =>
    intro k i acc hi hi1 hd hk hl
    obtain ⟨k, rfl⟩ : ∃ m, k = m + 1 := ⟨k - 1, by omega⟩
    refine ⟨acc, ?_, by omega⟩
    simp only [spec_EvenPhases.l0]; rw [if_neg (by omega)]
  | succ d ih =>
    intro k i acc hi hi1 hd hk hl
    obtain ⟨k, rfl⟩ : ∃ m, k = m + 1 := ⟨k - 1, by omega⟩
    simp only [spec_EvenPhases.l0]; rw [if_pos (by omega), if_neg (by omega), if_pos (by omega), w64 (x := i + 1) (by omega) (by omega)]
    exact ih k (i + 1) _ (by omega) (by omega) (by omega) (by omega) (by rw [List.length_append]; simp; omega)
theorem spec_total (a0 a1 : Int) (k : Nat) (hk : 8 ≤ k) : ∃ l b, spec_EvenPhases.f k a0 a1 = some (l, b) ∧ l.length ≤ 6 := by
  have hno : ∀ k' : Nat, 1 ≤ k' → spec_EvenPhases.j0 k' a0 a1 true = some ([], false) := by
    intro k' h
    obtain ⟨k', rfl⟩ : ∃ m, k' = m + 1 := ⟨k' - 1, by omega⟩
    simp [spec_EvenPhases.j0]
  unfold spec_EvenPhases.f
  rw [in_eq, in_eq]; simp only [Option.bind_some]
  by_cases h0 : 1 ≤ a0 ∧ a0 ≤ 100000
  · rw [if_pos (decide_eq_true h0)]
    by_cases h1 : 1 ≤ a1 ∧ a1 ≤ 6
    · obtain ⟨k, rfl⟩ : ∃ m, k = m + 1 := ⟨k - 1, by omega⟩
      obtain ⟨l, hl, hlen⟩ := spec_loop a0 a1 h0.1 h0.2 h1.1 h1.2 a1.toNat k 0 [] (by omega) (by omega) (by omega) (by omega) (by simp; omega)
      refine ⟨l, true, ?_, hlen⟩
      simp only [spec_EvenPhases.j0]
      rw [if_neg (by simp [h1])]; exact hl
    · refine ⟨[], false, ?_, by simp⟩
      rw [decide_eq_false h1]; exact hno k (by omega)
  · refine ⟨[], false, ?_, by simp⟩
    rw [if_neg (by simp [h0])]; exact hno k (by omega)

/-- A list of clocks is equal to itself. -/
theorem eq_loop (l : List S31) (hl : l.length ≤ 1000000) : ∀ (d k : Nat) (i : Int), 0 ≤ i → i ≤ l.length → (l.length : Int) - i = d → d < k → laws_eqClockS.l0 k l l i = some true := by
  intro d
  induction d with
  | zero =>
    intro k i h0 h1 hd hk
    obtain ⟨k, rfl⟩ : ∃ m, k = m + 1 := ⟨k - 1, by omega⟩
    simp only [laws_eqClockS.l0]; rw [if_neg (by omega)]
  | succ d ih =>
    intro k i h0 h1 hd hk
    obtain ⟨k, rfl⟩ : ∃ m, k = m + 1 := ⟨k - 1, by omega⟩
    simp only [laws_eqClockS.l0]; rw [if_pos (by omega), if_pos h0, if_pos (by omega)]
    have he : laws_eqClock.f ((rd_T31 l i).f0) ((rd_T31 l i).f1) ((rd_T31 l i).f0) ((rd_T31 l i).f1) = some true := by simp [laws_eqClock.f]
    rw [he]; simp only [Option.bind_some, if_true]
    rw [w64 (by omega) (by omega)]
    exact ih k (i + 1) (by omega) (by omega) (by omega) (by omega)
theorem eq_self (l : List S31) (hl : l.length ≤ 1000000) (k : Nat) (hk : l.length < k) : laws_eqClockS.f k l l = some true := by
  unfold laws_eqClockS.f; rw [if_pos rfl]; exact eq_loop l hl l.length k 0 (by omega) (by omega) (by omega) hk

/-- What markClockS writes. -/
def marked : Int → List S31 → List S31
  | _, [] => []
  | m, _ :: l => ⟨m, m + 1⟩ :: marked (m + 2) l
theorem marked_length : ∀ (l : List S31) (m : Int), (marked m l).length = l.length
  | [], _ => rfl
  | _ :: l, m => by simp [marked, marked_length l]
theorem rd_mid (p : List S31) (x : S31) (l : List S31) (i : Int) (h : i = p.length) : rd_T31 (p ++ x :: l) i = x := by
  subst h; simp [rd_T31]
theorem set_mid (p : List S31) (x y : S31) (l : List S31) (i : Int) (h : i = p.length) : (p ++ x :: l).set (i : Int).toNat y = p ++ y :: l := by
  subst h; simp
theorem mark_loop : ∀ (l p : List S31) (k : Nat) (m i : Int), i = p.length → l.length < k → (p ++ l).length ≤ 1000000 → 0 ≤ m → m ≤ 10000000 →  m + 2 * l.length ≤ 10000000 →
    laws_markClockS.l0 k (p ++ l) m i = some (m + 2 * l.length, p ++ marked m l)
  | [], p, k, m, i, hi, hk, hl, _, _, _ => by
    obtain ⟨k, rfl⟩ : ∃ m, k = m + 1 := ⟨k - 1, by omega⟩
    simp only [laws_markClockS.l0]; rw [if_neg (by simp [hi])]; simp [marked]
  | x :: l, p, k, m, i, hi, hk, hl, h0, h1, h2 => by
    obtain ⟨k, rfl⟩ : ∃ m, k = m + 1 := ⟨k - 1, by omega⟩
    simp only [List.length_append, List.length_cons] at hl hk h2
    simp only [laws_markClockS.l0]
    rw [if_pos (by simp [hi]; omega), if_pos (by omega)]
    simp only [Option.bind_some]
    rw [set_mid p x _ l i hi, set_mid p _ _ l i hi, rd_mid p _ l i hi, w64 (x := m + 1) (by omega) (by omega), w64 (x := m + 1 + 1) (by omega) (by omega), w64 (x := i + 1) (by omega) (by omega)]
    have h := mark_loop l (p ++ [⟨m, m + 1⟩]) k (m + 1 + 1) (i + 1) (by simp [hi]) (by omega) (by simp; omega) (by omega) (by omega) (by omega)
    simp only [List.append_assoc, List.singleton_append] at h
    rw [h]
    simp [marked]
    refine ⟨by omega, ?_⟩
    rw [show m + 1 + 1 = m + 2 by omega]
theorem held_loop : ∀ (l p : List S31) (k : Nat) (m i : Int), i = p.length → l.length < k → (p ++ l).length ≤ 1000000 → 0 ≤ m → m ≤ 10000000 →  m + 2 * l.length ≤ 10000000 →
    laws_heldClockS.l0 k (p ++ marked m l) m i = some (m + 2 * l.length)
  | [], p, k, m, i, hi, hk, hl, _, _, _ => by
    obtain ⟨k, rfl⟩ : ∃ m, k = m + 1 := ⟨k - 1, by omega⟩
    simp only [laws_heldClockS.l0]; rw [if_neg (by simp [hi, marked])]; simp
  | x :: l, p, k, m, i, hi, hk, hl, h0, h1, h2 => by
    obtain ⟨k, rfl⟩ : ∃ m, k = m + 1 := ⟨k - 1, by omega⟩
    simp only [List.length_append, List.length_cons] at hl hk h2
    have e : marked m (x :: l) = ⟨m, m + 1⟩ :: marked (m + 2) l := rfl
    rw [e]; simp only [laws_heldClockS.l0]
    rw [if_pos (by simp [hi, marked_length]; omega), if_pos (by omega), rd_mid p _ _ i hi, if_pos rfl, w64 (x := m + 1) (by omega) (by omega), if_pos rfl, w64 (x := m + 1 + 1) (by omega) (by omega), w64 (x := i + 1) (by omega) (by omega)]
    have h := held_loop l (p ++ [⟨m, m + 1⟩]) k (m + 1 + 1) (i + 1) (by simp [hi]) (by omega) (by simp; omega) (by omega) (by omega) (by omega)
    simp only [List.append_assoc, List.singleton_append] at h
    rw [show m + 2 = m + 1 + 1 by omega, h]
    simp; omega

theorem FnExactEvenPhases : laws_FnExactEvenPhases.Pure := by
  intro a0 a1 _ _
  obtain ⟨l, b, h19, hl⟩ := spec_total a0 a1 19 (by omega)
  have h20 : spec_EvenPhases.f 20 a0 a1 = some (l, b) := at_rounds (g := fun k => spec_EvenPhases.f k a0 a1) (fun k => spec_EvenPhases.mono a0 a1 k) (k := 19) (k' := 20) (by omega) h19
  refine ⟨20, ?_⟩
  unfold laws_FnExactEvenPhases.f
  rw [f_eq, h20]; simp only [Option.bind_some]
  rw [eq_self l (by omega) 20 (by omega)]; simp only [Option.bind_some, if_true]
  simp only [laws_FnExactEvenPhases.j0]
  rw [if_neg (by simp)]
  have hm := mark_loop l [] 19 1 0 rfl (by omega) (by simp; omega) (by omega) (by omega) (by omega)
  have hh := fun k (hk : l.length < k) => held_loop l [] k 1 0 rfl hk (by simp; omega) (by omega) (by omega) (by omega)
  simp only [List.nil_append] at hm hh
  have hm' : laws_markClockS.f 19 l 1 = some (1 + 2 * (l.length : Int), marked 1 l) := hm
  have hh' : ∀ k, l.length < k → laws_heldClockS.f k (marked 1 l) 1 = some (1 + 2 * (l.length : Int)) := hh
  rw [hm']; simp only [Option.bind_some]
  rw [hh' 19 (by omega)]; simp only [Option.bind_some]
  rw [if_neg (by omega)]; simp only [if_true]
  rw [f_eq, h19]; simp only [Option.bind_some]
  rw [eq_self l (by omega) 19 (by omega)]; simp only [Option.bind_some, if_true]
  simp only [laws_FnExactEvenPhases.j1]
  rw [if_neg (by simp), hh' 18 (by omega)]; simp only [Option.bind_some]
  rw [if_neg (by omega)]; simp only [if_true]

end Go.Proofs.Ytfoedfigjcmjbaa.Pure
