/- Lists of texts: sizes, copies, equality. No conditions. -/
import Derived.Test.YtjpjlobpglmoiaaDoorA14
import Derived.Test.YtjpjlobpglmoiaaDoorA16
import Derived.Test.YtjpjlobpglmoiaaDoorA18
namespace Go.Proofs.YtjpjlobpglmoiaaDoor.Pure
set_option linter.unusedVariables false
set_option linter.unusedSimpArgs false
open Go.RowKit Go.Proofs.YtjpjlobpglmoiaaDoor.A Go.Proofs.YtjpjlobpglmoiaaDoorW.PrintWords Go.Proofs.YtjpjlobpglmoiaaDoorW.PrintLast Go.Proofs.YtjpjlobpglmoiaaDoorW.PrintMore
theorem w64' {x : Int} (h0 : -9223372036854775808 ≤ x) (h1 : x < 9223372036854775808) : wrap64 x = x := by unfold wrap64; omega
theorem ev_const {α : Type} {g : Nat → Option α} {r : α} (h : ∀ k, g k = some r) : Ev g r := ⟨0, fun k _ => h k⟩
abbrev BA := ByteArray
theorem rds (p : List BA) (x : BA) (l : List BA) (i : Int) (h : i = p.length) : rdOf ByteArray.empty (p ++ x :: l) i = x := by subst h; simp [rdOf]
theorem to_loop : ∀ (l p : List BA) (k : Nat) (q r : List BA) (i : Int), i = p.length → q.length = p.length → r.length = l.length → l.length < k → (p ++ l).length ≤ 2000000 →
    laws_toStringS.l0 k (p ++ l) (q ++ r) i = some (q ++ l)
  | [], p, k, q, r, i, hi, hq, hr, hk, hl => by
    obtain ⟨k, rfl⟩ : ∃ m, k = m + 1 := ⟨k - 1, by omega⟩
    have : r = [] := List.eq_nil_of_length_eq_zero hr
    subst this
    simp only [laws_toStringS.l0]; rw [if_neg (by simp [hi])]
  | x :: l, p, k, q, r, i, hi, hq, hr, hk, hl => by
    obtain ⟨k, rfl⟩ : ∃ m, k = m + 1 := ⟨k - 1, by omega⟩
    simp only [List.length_append, List.length_cons] at hl hk hr
    cases r with
    | nil => simp at hr
    | cons y r =>
    simp only [List.length_cons] at hr
    simp only [laws_toStringS.l0]
    have e : (q ++ y :: r).set (i : Int).toNat x = q ++ x :: r := by
      have : i.toNat = q.length := by omega
      rw [this]; simp
    rw [if_pos (by simp [hi]; omega), if_pos (by omega), if_pos (by simp; omega), rds p x l i hi, e, w64' (x := i + 1) (by omega) (by omega)]
    have h := to_loop l (p ++ [x]) k (q ++ [x]) r (i + 1) (by simp [hi]) (by simp [hq]) (by omega) (by omega) (by simp; omega)
    simp only [List.append_assoc, List.singleton_append] at h
    exact h
theorem ev_to (l : List BA) (hl : l.length ≤ 1048576) : Ev (fun k => laws_toStringS.f k l) l := by
  refine ⟨l.length + 1, fun k hk => ?_⟩
  show laws_toStringS.f k l = some l
  unfold laws_toStringS.f
  rw [if_pos (by omega), if_pos (by simp; omega)]
  have := to_loop l [] k [] (List.replicate ((l.length : Int) : Int).toNat (⟨#[]⟩ : ByteArray)) 0 rfl rfl (by simp) (by omega) (by simp; omega)
  simp only [List.nil_append] at this
  exact this
theorem eqs_loop : ∀ (l p : List BA) (k : Nat) (i : Int), i = p.length → l.length < k → (p ++ l).length ≤ 2000000 → laws_eqStringS.l0 k (p ++ l) (p ++ l) i = some true
  | [], p, k, i, hi, hk, hl => by
    obtain ⟨k, rfl⟩ : ∃ m, k = m + 1 := ⟨k - 1, by omega⟩
    simp only [laws_eqStringS.l0]; rw [if_neg (by simp [hi])]
  | x :: l, p, k, i, hi, hk, hl => by
    obtain ⟨k, rfl⟩ : ∃ m, k = m + 1 := ⟨k - 1, by omega⟩
    simp only [List.length_append, List.length_cons] at hl hk
    simp only [laws_eqStringS.l0]
    rw [if_pos (by simp [hi]; omega), if_pos (by omega), if_pos (by simp [hi]; omega), if_pos trivial, w64' (x := i + 1) (by omega) (by omega)]
    have h := eqs_loop l (p ++ [x]) k (i + 1) (by simp [hi]) (by omega) (by simp; omega)
    simpa using h
theorem ev_eqs (l : List BA) (hl : l.length ≤ 1048576) : Ev (fun k => laws_eqStringS.f k l l) true := by
  refine ⟨l.length + 1, fun k hk => ?_⟩
  show laws_eqStringS.f k l l = some true
  unfold laws_eqStringS.f; rw [if_pos rfl]
  have := eqs_loop l [] k 0 rfl (by omega) (by simpa using (by omega : l.length ≤ 2000000))
  simpa using this
/-- The bytes of a list of texts. -/
def bulk : List BA → Nat
  | [] => 0
  | x :: l => x.size + bulk l
theorem bulk_mem {l : List BA} {x : BA} (h : x ∈ l) : x.size ≤ bulk l := by
  induction l with
  | nil => cases h
  | cons y l ih =>
    unfold bulk
    rcases List.mem_cons.1 h with rfl | h
    · omega
    · have := ih h; omega
theorem ev_szl : ∀ (l p : List BA) (i a : Int), i = p.length → (p ++ l).length ≤ 2000000 → 0 ≤ a → a ≤ 1048576 → (∀ x ∈ l, x.size ≤ maxLen) → ∃ r, Ev (fun k => laws_szStringS.l0 k (p ++ l) a i) r ∧ (r < 0 ∨ 0 ≤ r ∧ r + bulk l = a)
  | [], p, i, a, hi, hl, h0, h1, hs => ⟨a, Ev.step (f := fun _ => some a) (fun k => by simp only [laws_szStringS.l0]; rw [if_neg (by simp [hi])]) (Ev.now _), .inr ⟨h0, by unfold bulk; omega⟩⟩
  | x :: l, p, i, a, hi, hl, h0, h1, hs => by
    have hx := hs x (by simp)
    have hm : maxLen = 9223372036854775807 := rfl
    simp only [List.length_append, List.length_cons] at hl
    have e : ∀ k, laws_szStringS.l0 (k + 1) (p ++ x :: l) a i = if a - (x.size : Int) < 0 then some (-1) else laws_szStringS.l0 k (p ++ x :: l) (a - (x.size : Int)) (i + 1) := by
      intro k
      simp only [laws_szStringS.l0]
      rw [if_pos (by simp [hi]; omega), if_pos (by omega), rds p x l i hi, w64' (x := i + 1) (by omega) (by omega), w64' (x := a - (x.size : Int)) (by omega) (by omega)]
    by_cases c : a - (x.size : Int) < 0
    · exact ⟨-1, Ev.step (f := fun _ => some (-1)) (fun k => by rw [e, if_pos c]) (Ev.now _), .inl (by decide)⟩
    · obtain ⟨r, hr, hrr⟩ := ev_szl l (p ++ [x]) (i + 1) (a - (x.size : Int)) (by simp [hi]) (by simp; omega) (by omega) (by omega) (fun y hy => hs y (by simp [hy]))
      simp only [List.append_assoc, List.singleton_append] at hr
      refine ⟨r, Ev.step (f := fun k => laws_szStringS.l0 k (p ++ x :: l) (a - (x.size : Int)) (i + 1)) (fun k => by rw [e, if_neg c]) hr, ?_⟩
      rcases hrr with h | ⟨h, h2⟩
      · exact .inl h
      · exact .inr ⟨h, by unfold bulk; omega⟩
theorem ev_sz (l : List BA) (a : Int) (h0 : 0 ≤ a) (h1 : a ≤ 1048576) (hl : l.length ≤ maxLen) (hs : ∀ x ∈ l, x.size ≤ maxLen) : ∃ r, Ev (fun k => laws_szStringS.f k l a) r ∧ (r < 0 ∨ 0 ≤ r ∧ r + bulk l + l.length = a) := by
  have hm : maxLen = 9223372036854775807 := rfl
  unfold laws_szStringS.f
  rw [w64' (x := a - (l.length : Int)) (by omega) (by omega)]
  by_cases c : a - (l.length : Int) < 0
  · simp only [if_pos c]
    exact ⟨-1, Ev.now _, .inl (by decide)⟩
  · simp only [if_neg c]
    obtain ⟨r, hr, hrr⟩ := ev_szl l [] 0 (a - (l.length : Int)) rfl (by simp; omega) (by omega) (by omega) hs
    simp only [List.nil_append] at hr
    refine ⟨r, hr, ?_⟩
    rcases hrr with h | ⟨h, h2⟩
    · exact .inl h
    · exact .inr ⟨h, by omega⟩
end Go.Proofs.YtjpjlobpglmoiaaDoor.Pure
