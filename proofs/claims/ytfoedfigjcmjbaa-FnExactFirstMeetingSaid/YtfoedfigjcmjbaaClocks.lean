/- Lists of clocks: copies, equality, validity; and greatest common divisors, of the program and of the reference. No conditions. -/
import Derived.Test.YtfoedfigjcmjbaaA13
import Derived.Test.YtfoedfigjcmjbaaA33
import Derived.Test.YtfoedfigjcmjbaaA35
import Derived.Test.YtfoedfigjcmjbaaA53
import Derived.Test.YtfoedfigjcmjbaaA55
import Derived.Test.YtfoedfigjcmjbaaA57
import Derived.Test.YtfoedfigjcmjbaaA59
import Derived.Test.YtfoedfigjcmjbaaLib
namespace Go.Proofs.Ytfoedfigjcmjbaa.L
set_option linter.unusedVariables false
set_option linter.unusedSimpArgs false
open Go.RowKit Go.Proofs.Ytfoedfigjcmjbaa.A Go.Proofs.YtfoedfigjcmjbaaW.PrintWords Go.Proofs.YtfoedfigjcmjbaaW.PrintLast Go.Proofs.YtfoedfigjcmjbaaW.PrintMore
theorem in_eq (a b c : Int) : spec_l00In.f a b c = some (decide (b ≤ a ∧ a ≤ c)) := by
  unfold spec_l00In.f
  by_cases h : a ≥ b
  · rw [if_pos h]; have h' : b ≤ a := h; simp [h']
  · rw [if_neg h]; have h' : ¬ b ≤ a := h; simp [h']
theorem is_eq (p o : Int) : spec_l10Is.f p o = impl_ValidClock.f p o := by
  rw [valid_eq]; unfold spec_l10Is.f
  rw [in_eq, in_eq]; simp only [Option.bind_some]
  by_cases h : 1 ≤ p ∧ p ≤ 100000 <;> by_cases k : 0 ≤ o ∧ o ≤ 100000 <;> simp [h, k]
/-- The copy of a clock. -/
def conv (c : S43) : S31 := ⟨c.f0, c.f1⟩
abbrev IC := S31
abbrev LC := S43
theorem rdi (p : List IC) (x : IC) (l : List IC) (i : Int) (h : i = p.length) : rd_T31 (p ++ x :: l) i = x := by subst h; simp [rd_T31]
theorem rdl (p : List LC) (x : LC) (l : List LC) (i : Int) (h : i = p.length) : rd_T43 (p ++ x :: l) i = x := by subst h; simp [rd_T43]
theorem conv_loop : ∀ (l p : List LC) (k : Nat) (q r : List IC) (i : Int), i = p.length → q.length = p.length → r.length = l.length → l.length < k → (p ++ l).length ≤ 2000000 →
    laws_toClockS.l0 k (p ++ l) (q ++ r) i = some (q ++ l.map conv)
  | [], p, k, q, r, i, hi, hq, hr, hk, hl => by
    obtain ⟨k, rfl⟩ : ∃ m, k = m + 1 := ⟨k - 1, by omega⟩
    have : r = [] := List.eq_nil_of_length_eq_zero hr
    subst this
    simp only [laws_toClockS.l0]; rw [if_neg (by simp [hi])]; simp
  | x :: l, p, k, q, r, i, hi, hq, hr, hk, hl => by
    obtain ⟨k, rfl⟩ : ∃ m, k = m + 1 := ⟨k - 1, by omega⟩
    simp only [List.length_append, List.length_cons] at hl hk hr
    cases r with
    | nil => simp at hr
    | cons y r =>
    simp only [List.length_cons] at hr
    simp only [laws_toClockS.l0, laws_toClock.f, Option.bind_some]
    have e : (q ++ y :: r).set (i : Int).toNat (⟨x.f0, x.f1⟩ : IC) = q ++ conv x :: r := by
      have : i.toNat = q.length := by omega
      rw [this]; simp [conv]
    rw [if_pos (by simp [hi]; omega), if_pos (by omega), if_pos (by simp; omega), rdl p x l i hi, e, w64 (x := i + 1) (by omega) (by omega)]
    have h := conv_loop l (p ++ [x]) k (q ++ [conv x]) r (i + 1) (by simp [hi]) (by simp [hq]) (by omega) (by omega) (by simp; omega)
    simp only [List.append_assoc, List.singleton_append] at h
    rw [h]; simp
theorem conv_eq (l : List LC) (hl : l.length ≤ 1048576) (k : Nat) (hk : l.length < k) : laws_toClockS.f k l = some (l.map conv) := by
  unfold laws_toClockS.f
  rw [if_pos (by omega), if_pos (by simp; omega)]
  have := conv_loop l [] k [] (List.replicate ((l.length : Int) : Int).toNat z31) 0 rfl rfl (by simp) hk (by simp; omega)
  rw [List.nil_append, List.nil_append, List.nil_append] at this
  exact this
theorem sz_eq (l : List LC) (hl : l.length ≤ maxLen) : ∃ r, laws_szClockS.f l 1048576 = some r ∧ (r < 0 ∨ l.length ≤ 1048576) := by
  unfold laws_szClockS.f
  have : maxLen = 9223372036854775807 := rfl
  rw [w64 (by omega) (by omega)]
  split
  · exact ⟨_, rfl, .inl (by omega)⟩
  · exact ⟨_, rfl, .inr (by omega)⟩
theorem eqc_loop : ∀ (l p : List IC) (k : Nat) (i : Int), i = p.length → l.length < k → (p ++ l).length ≤ 2000000 → laws_eqClockS.l0 k (p ++ l) (p ++ l) i = some true
  | [], p, k, i, hi, hk, hl => by
    obtain ⟨k, rfl⟩ : ∃ m, k = m + 1 := ⟨k - 1, by omega⟩
    simp only [laws_eqClockS.l0]; rw [if_neg (by simp [hi])]
  | x :: l, p, k, i, hi, hk, hl => by
    obtain ⟨k, rfl⟩ : ∃ m, k = m + 1 := ⟨k - 1, by omega⟩
    simp only [List.length_append, List.length_cons] at hl hk
    simp only [laws_eqClockS.l0]
    have he : ∀ y : IC, laws_eqClock.f y.f0 y.f1 y.f0 y.f1 = some true := fun y => by simp [laws_eqClock.f]
    rw [if_pos (by simp [hi]; omega), if_pos (by omega), if_pos (by simp [hi]; omega), he]
    simp only [Option.bind_some, if_true]
    rw [w64 (x := i + 1) (by omega) (by omega)]
    have h := eqc_loop l (p ++ [x]) k (i + 1) (by simp [hi]) (by omega) (by simp; omega)
    simpa using h
theorem eqc_self (l : List IC) (hl : l.length ≤ 2000000) (k : Nat) (hk : l.length < k) : laws_eqClockS.f k l l = some true := by
  unfold laws_eqClockS.f; rw [if_pos rfl]
  have := eqc_loop l [] k 0 rfl hk (by simpa using hl)
  simpa using this
/-- Are there 1 to 6 valid clocks. -/
def all (l : List IC) : Bool := decide (1 ≤ (l.length : Int) ∧ (l.length : Int) ≤ 6) && l.all impl_areClocks.ok
theorem are_eq (l : List IC) : impl_areClocks.f l = some (all l) := rfl
theorem ok_eq (c : IC) : spec_l10Is.f c.f0 c.f1 = some (impl_areClocks.ok c) := by rw [is_eq, valid_eq]; rfl
theorem all_loop : ∀ (l p : List IC) (k : Nat) (i : Int), i = p.length → (p ++ l).length ≤ 6 → 1 ≤ (p ++ l).length → 2 * l.length + 1 < k → spec_l10All.l0 k (p ++ l) i = some (l.all impl_areClocks.ok)
  | [], p, k, i, hi, hl, h1, hk => by
    obtain ⟨k, rfl⟩ : ∃ m, k = m + 1 + 1 := ⟨k - 2, by simp at hk; omega⟩
    simp only [spec_l10All.l0, spec_l10All.j1]; rw [if_neg (by simp [hi]), if_neg (by simp), in_eq]
    simp only [Option.bind_some]
    rw [decide_eq_true (by omega)]; rfl
  | x :: l, p, k, i, hi, hl, h1, hk => by
    obtain ⟨k, rfl⟩ : ∃ m, k = m + 1 + 1 := ⟨k - 2, by simp at hk; omega⟩
    simp only [List.length_append, List.length_cons] at hl hk
    simp only [spec_l10All.l0, spec_l10All.j1]
    rw [if_pos (by simp [hi]; omega), if_pos (by simp; omega), if_pos (by omega), if_pos (by simp [hi]; omega), rdi p x l i hi, ok_eq]
    simp only [Option.bind_some]
    cases hx : impl_areClocks.ok x with
    | true =>
      simp only [if_true]
      rw [w64 (x := i + 1) (by omega) (by omega)]
      have h := all_loop l (p ++ [x]) k (i + 1) (by simp [hi]) (by simp; omega) (by simp; omega) (by omega)
      simp only [List.append_assoc, List.singleton_append] at h
      rw [h]; simp [hx]
    | false => simp [hx]
theorem all_eq (l : List IC) (hl : l.length ≤ 2000000) (k : Nat) (hk : 20 ≤ k) : spec_l10All.f k l = some (all l) := by
  unfold spec_l10All.f all
  by_cases h : 1 ≤ l.length ∧ l.length ≤ 6
  · have := all_loop l [] k 0 rfl (by simpa using h.2) (by simpa using h.1) (by omega)
    rw [List.nil_append] at this
    rw [this, decide_eq_true (by omega)]; simp
  · obtain ⟨k, rfl⟩ : ∃ m, k = m + 1 + 1 := ⟨k - 2, by omega⟩
    simp only [spec_l10All.l0, spec_l10All.j1]
    have hf : decide (1 ≤ (l.length : Int) ∧ (l.length : Int) ≤ 6) = false := decide_eq_false (by omega)
    split
    · rw [if_neg (by simp; omega), in_eq, hf]; rfl
    · rw [if_neg (by simp), in_eq, hf]; rfl
/-- Greatest common divisors. -/
theorem tmod_cast (a b : Nat) : Int.tmod (a : Int) (b : Int) = ((a % b : Nat) : Int) := by
  rw [Int.tmod_eq_emod_of_nonneg (by omega)]; exact (Int.natCast_emod a b).symm
theorem gcd_step (a b : Nat) : Nat.gcd b (a % b) = Nat.gcd a b := by
  rw [Nat.gcd_comm b, ← Nat.gcd_rec, Nat.gcd_comm]
theorem impl_gcd_loop : ∀ (b a k : Nat), b < k → a ≤ 9223372036854775807 → b ≤ 9223372036854775807 → impl_gcd.l0 k (a : Int) (b : Int) = some ((Nat.gcd a b : Nat) : Int) := by
  intro b
  induction b using Nat.strongRecOn with
  | _ b ih =>
  intro a k hk ha hb
  obtain ⟨k, rfl⟩ : ∃ m, k = m + 1 := ⟨k - 1, by omega⟩
  simp only [impl_gcd.l0]
  by_cases h : (b : Int) = 0
  · rw [if_pos h]
    have h0 : b = 0 := by omega
    subst h0
    rw [Nat.gcd_zero_right, w64 (by omega) (by omega)]
    unfold mx; split
    · congr 1; omega
    · rfl
  · have hlt : a % b < b := Nat.mod_lt _ (by omega)
    rw [if_neg h, tmod_cast, ih (a % b) hlt b k (by omega) hb (by omega), gcd_step]
theorem spec_gcd_loop : ∀ (b a k : Nat), b < k → spec_l01Gcd.l0 k (a : Int) (b : Int) = some ((Nat.gcd a b : Nat) : Int) := by
  intro b
  induction b using Nat.strongRecOn with
  | _ b ih =>
  intro a k hk
  obtain ⟨k, rfl⟩ : ∃ m, k = m + 1 := ⟨k - 1, by omega⟩
  simp only [spec_l01Gcd.l0]
  by_cases h : (b : Int) > 0
  · rw [if_pos h, if_neg (by omega), tmod_cast, ih (a % b) (Nat.mod_lt _ (by omega)) b k (by have := Nat.mod_lt a (show b > 0 by omega); omega), gcd_step]
  · have h0 : b = 0 := by omega
    subst h0
    rw [if_neg h, Nat.gcd_zero_right]
end Go.Proofs.Ytfoedfigjcmjbaa.L
