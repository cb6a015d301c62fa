/- Lists of numbers: a list is equal to itself, and what is marked in it is held. No conditions. -/
import Derived.Test.YtfoedfigjcmjbaaA27
import Derived.Test.YtfoedfigjcmjbaaA28
import Derived.Test.YtfoedfigjcmjbaaA29
namespace Go.Proofs.Ytfoedfigjcmjbaa.L
set_option linter.unusedVariables false
set_option linter.unusedSimpArgs false
open Go.RowKit Go.Proofs.Ytfoedfigjcmjbaa.A Go.Proofs.YtfoedfigjcmjbaaW.PrintWords Go.Proofs.YtfoedfigjcmjbaaW.PrintLast Go.Proofs.YtfoedfigjcmjbaaW.PrintMore
namespace MarksInt
theorem w64 {x : Int} (h1 : -9223372036854775808 ≤ x) (h2 : x ≤ 9223372036854775807) : wrap64 x = x := by unfold wrap64; omega
theorem eq_loop (l : List Int) (hl : l.length ≤ 1000000) : ∀ (d k : Nat) (i : Int), 0 ≤ i → i ≤ l.length → (l.length : Int) - i = d → d < k → laws_eqInt64S.l0 k l l i = some true := by
  intro d
  induction d with
  | zero =>
    intro k i h0 h1 hd hk
    obtain ⟨k, rfl⟩ : ∃ m, k = m + 1 := ⟨k - 1, by omega⟩
    simp only [laws_eqInt64S.l0]; rw [if_neg (by omega)]
  | succ d ih =>
    intro k i h0 h1 hd hk
    obtain ⟨k, rfl⟩ : ∃ m, k = m + 1 := ⟨k - 1, by omega⟩
    simp only [laws_eqInt64S.l0]; rw [if_pos (by omega), if_pos h0, if_pos (by omega)]
    simp only [if_true]
    rw [w64 (by omega) (by omega)]
    exact ih k (i + 1) (by omega) (by omega) (by omega) (by omega)
theorem eq_self (l : List Int) (hl : l.length ≤ 1000000) (k : Nat) (hk : l.length < k) : laws_eqInt64S.f k l l = some true := by
  unfold laws_eqInt64S.f; rw [if_pos rfl]; exact eq_loop l hl l.length k 0 (by omega) (by omega) (by omega) hk
/-- What markInt64S writes. -/
def marked : Int → List Int → List Int
  | _, [] => []
  | m, _ :: l => m :: marked (m + 1) l
theorem marked_length : ∀ (l : List Int) (m : Int), (marked m l).length = l.length
  | [], _ => rfl
  | _ :: l, m => by simp [marked, marked_length l]
theorem rd_mid (p : List Int) (x : Int) (l : List Int) (i : Int) (h : i = p.length) : rd (p ++ x :: l) i = x := by
  subst h; simp [rd]
theorem set_mid (p : List Int) (x y : Int) (l : List Int) (i : Int) (h : i = p.length) : (p ++ x :: l).set (i : Int).toNat y = p ++ y :: l := by
  subst h; simp
theorem mark_loop : ∀ (l p : List Int) (k : Nat) (m i : Int), i = p.length → l.length < k → (p ++ l).length ≤ 1000000 → 0 ≤ m → m + l.length ≤ 10000000 →
    laws_markInt64S.l0 k (p ++ l) m i = some (m + l.length, p ++ marked m l)
  | [], p, k, m, i, hi, hk, hl, _, _ => by
    obtain ⟨k, rfl⟩ : ∃ m, k = m + 1 := ⟨k - 1, by omega⟩
    simp only [laws_markInt64S.l0]; rw [if_neg (by simp [hi])]; simp [marked]
  | x :: l, p, k, m, i, hi, hk, hl, h0, h2 => by
    obtain ⟨k, rfl⟩ : ∃ m, k = m + 1 := ⟨k - 1, by omega⟩
    simp only [List.length_append, List.length_cons] at hl hk h2
    simp only [laws_markInt64S.l0]
    rw [if_pos (by simp [hi]; omega), if_pos (by omega), set_mid p x _ l i hi, w64 (x := m + 1) (by omega) (by omega), w64 (x := i + 1) (by omega) (by omega)]
    have h := mark_loop l (p ++ [m]) k (m + 1) (i + 1) (by simp [hi]) (by omega) (by simp; omega) (by omega) (by omega)
    simp only [List.append_assoc, List.singleton_append] at h
    rw [h]
    simp [marked]; omega
theorem held_loop : ∀ (l p : List Int) (k : Nat) (m i : Int), i = p.length → l.length < k → (p ++ l).length ≤ 1000000 → 0 ≤ m → m + l.length ≤ 10000000 →
    laws_heldInt64S.l0 k (p ++ marked m l) m i = some (m + l.length)
  | [], p, k, m, i, hi, hk, hl, _, _ => by
    obtain ⟨k, rfl⟩ : ∃ m, k = m + 1 := ⟨k - 1, by omega⟩
    simp only [laws_heldInt64S.l0]; rw [if_neg (by simp [hi, marked])]; simp
  | x :: l, p, k, m, i, hi, hk, hl, h0, h2 => by
    obtain ⟨k, rfl⟩ : ∃ m, k = m + 1 := ⟨k - 1, by omega⟩
    simp only [List.length_append, List.length_cons] at hl hk h2
    have e : marked m (x :: l) = m :: marked (m + 1) l := rfl
    rw [e]; simp only [laws_heldInt64S.l0]
    rw [if_pos (by simp [hi, marked_length]; omega), if_pos (by omega), rd_mid p _ _ i hi, if_pos rfl, w64 (x := m + 1) (by omega) (by omega), w64 (x := i + 1) (by omega) (by omega)]
    have h := held_loop l (p ++ [m]) k (m + 1) (i + 1) (by simp [hi]) (by omega) (by simp; omega) (by omega) (by omega)
    simp only [List.append_assoc, List.singleton_append] at h
    rw [h]
    simp; omega
theorem mark_eq (l : List Int) (hl : l.length ≤ 1000000) (k : Nat) (hk : l.length < k) : laws_markInt64S.f k l 1 = some (1 + (l.length : Int), marked 1 l) := by
  have := mark_loop l [] k 1 0 rfl hk (by simpa using hl) (by omega) (by omega)
  rw [List.nil_append, List.nil_append] at this; exact this
theorem held_eq (l : List Int) (hl : l.length ≤ 1000000) (k : Nat) (hk : l.length < k) : laws_heldInt64S.f k (marked 1 l) 1 = some (1 + (l.length : Int)) := by
  have := held_loop l [] k 1 0 rfl hk (by simpa using hl) (by omega) (by omega)
  rw [List.nil_append] at this; exact this
end MarksInt
end Go.Proofs.Ytfoedfigjcmjbaa.L
