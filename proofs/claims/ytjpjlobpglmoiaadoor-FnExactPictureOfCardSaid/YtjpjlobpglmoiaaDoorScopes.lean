/- Names, waves and scopes of the program: what is valid. No conditions. -/
import Derived.Test.YtjpjlobpglmoiaaDoorA9
import Derived.Test.YtjpjlobpglmoiaaDoorA10
import Derived.Test.YtjpjlobpglmoiaaDoorA11
import Derived.Test.YtjpjlobpglmoiaaDoorA12
import Derived.Test.YtjpjlobpglmoiaaDoorA13
import Derived.Test.YtjpjlobpglmoiaaDoorA30
import Derived.Test.YtjpjlobpglmoiaaDoorA31
import Derived.Test.YtjpjlobpglmoiaaDoorA50
import Derived.Test.YtjpjlobpglmoiaaDoorStrList
namespace Go.Proofs.YtjpjlobpglmoiaaDoor.Pure
set_option linter.unusedVariables false
set_option linter.unusedSimpArgs false
open Go.RowKit Go.Proofs.YtjpjlobpglmoiaaDoor.A Go.Proofs.YtjpjlobpglmoiaaDoorW.PrintWords Go.Proofs.YtjpjlobpglmoiaaDoorW.PrintLast Go.Proofs.YtjpjlobpglmoiaaDoorW.PrintMore
theorem drop_nil {p : UInt8 → Bool} : ∀ (l : List UInt8), l.dropWhile p = [] → l.all p = true
  | [], _ => rfl
  | x :: l, h => by
    rw [List.dropWhile_cons] at h
    cases hx : p x
    · rw [hx] at h; simp at h
    · rw [hx, if_pos rfl] at h
      rw [List.all_cons, hx, drop_nil l h]; rfl
theorem drop_head {p : UInt8 → Bool} : ∀ (l : List UInt8) (x : UInt8) (r : List UInt8), l.dropWhile p = x :: r → p x = false
  | [], _, _, h => by simp at h
  | y :: l, x, r, h => by
    rw [List.dropWhile_cons] at h
    cases hy : p y
    · rw [hy, if_neg (by decide)] at h
      injection h with h1 h2
      rw [← h1]; exact hy
    · rw [hy, if_pos rfl] at h
      exact drop_head l x r h
theorem drop_all {p : UInt8 → Bool} : ∀ (l : List UInt8), l.all p = true → l.dropWhile p = []
  | [], _ => rfl
  | x :: l, h => by
    rw [List.all_cons, Bool.and_eq_true] at h
    rw [List.dropWhile_cons, if_pos h.1]
    exact drop_all l h.2
theorem trim_nil (l cs : List UInt8) : (Lib.trimS l cs == []) = l.all (cs.contains ·) := by
  unfold Lib.trimS Lib.trimLeftS Lib.trimRightS
  cases h : l.all (cs.contains ·)
  · rw [beq_eq_false_iff_ne]
    intro h2
    have h3 := drop_nil _ h2
    cases hd : l.reverse.dropWhile (cs.contains ·) with
    | nil =>
      have h4 := drop_nil _ hd
      rw [List.all_reverse, h] at h4
      exact absurd h4 (by decide)
    | cons x r =>
      rw [hd, List.all_reverse, List.all_cons, drop_head _ x r hd, Bool.false_and] at h3
      exact absurd h3 (by decide)
  · rw [beq_iff_eq, drop_all l.reverse (by rw [List.all_reverse]; exact h)]
    rfl
theorem all_u8 {p : UInt8 → Bool} (h : (List.range 256).all (fun n => p (UInt8.ofNat n)) = true) (x : UInt8) : p x = true := by
  have := List.all_eq_true.1 h x.toNat (List.mem_range.2 x.toNat_lt)
  rwa [UInt8.ofNat_toNat] at this
theorem has_small (x : UInt8) : ([97, 98, 99, 100, 101, 102, 103, 104, 105, 106, 107, 108, 109, 110, 111, 112, 113, 114, 115, 116, 117, 118, 119, 120, 121, 122] : List UInt8).contains x = decide (97 ≤ x.toNat ∧ x.toNat ≤ 122) :=
  beq_iff_eq.1 (all_u8 (p := fun x => ([97, 98, 99, 100, 101, 102, 103, 104, 105, 106, 107, 108, 109, 110, 111, 112, 113, 114, 115, 116, 117, 118, 119, 120, 121, 122] : List UInt8).contains x == decide (97 ≤ x.toNat ∧ x.toNat ≤ 122)) (by decide +kernel) x)
theorem has_level (x : UInt8) : ([48, 49] : List UInt8).contains x = decide (x.toNat = 48 ∨ x.toNat = 49) :=
  beq_iff_eq.1 (all_u8 (p := fun x => ([48, 49] : List UInt8).contains x == decide (x.toNat = 48 ∨ x.toNat = 49)) (by decide +kernel) x)
theorem data_size (s : ByteArray) : s.data.toList.length = s.size := by simp
theorem implName (s : ByteArray) (hs : s.size ≤ 1048576) : impl_IsName.f s = some (nameB s) := by
  unfold impl_IsName.f nameB strings_Trim.f
  by_cases c : 1 ≤ s.size
  · rw [if_pos (by omega)]
    by_cases c2 : s.size ≤ 10
    · rw [if_pos (by omega), if_pos ⟨by omega, by decide, by decide⟩, Option.bind_some, decide_eq_true ⟨c, c2⟩, Bool.and_true, ByteArray.toList_mk, trim_nil]
      congr 2
      funext x
      exact has_small x
    · rw [if_neg (by omega), decide_eq_false (fun z => c2 z.2), Bool.and_false]
  · rw [if_neg (by omega), decide_eq_false (fun z => c z.1), Bool.and_false]
theorem implWave (s : ByteArray) (hs : s.size ≤ 1048576) : impl_IsWave.f s = some (waveB s) := by
  unfold impl_IsWave.f waveB strings_Trim.f
  by_cases c : s.size ≤ 400
  · rw [if_pos (by omega), if_pos ⟨by omega, by decide, by decide⟩, Option.bind_some, decide_eq_true c, Bool.and_true, ByteArray.toList_mk, trim_nil]
    congr 2
    funext x
    exact has_level x
  · rw [if_neg (by omega), decide_eq_false c, Bool.and_false]
theorem getD_mem {l : List ByteArray} {k : Nat} (h : k < l.length) : l.getD k ByteArray.empty ∈ l := by
  rw [List.getD_eq_getElem?_getD, List.getElem?_eq_getElem h]; exact List.getElem_mem h
theorem ev_scopeLoop (l0 l1 : List ByteArray) (h6 : l0.length ≤ 6) (hl : l1.length = l0.length) (hs0 : ∀ s ∈ l0, s.size ≤ 1048576) (hs1 : ∀ s ∈ l1, s.size ≤ 1048576) : ∀ (t k : Nat), k + t = l0.length → (List.range k).all (atB l0 l1) = true →
    Ev (fun n => impl_ValidScope.l0 n l0 (l0.length : Int) (k : Int) l0 l1) ((List.range l0.length).all (atB l0 l1))
  | 0, k, hk, ha => by
    refine Ev.step (f := fun _ => some true) (fun n => ?_) (by rw [show l0.length = k by omega, ha]; exact Ev.now _)
    simp only [impl_ValidScope.l0]; rw [if_neg (by omega)]
  | t + 1, k, hk, ha => by
    have hlt : k < l0.length := by omega
    have e0 : rdOf ByteArray.empty l0 (k : Int) = l0.getD k ByteArray.empty := by simp [rdOf]
    have e1 : rdOf ByteArray.empty l1 (k : Int) = l1.getD k ByteArray.empty := by simp [rdOf]
    have hn := implName _ (hs0 _ (getD_mem hlt))
    have hv := implWave _ (hs1 _ (getD_mem (show k < l1.length by omega)))
    have hw : wrap64 ((k : Int) + 1) = ((k + 1 : Nat) : Int) := by rw [w64' (by omega) (by omega)]; rfl
    have bad : atB l0 l1 k = false → (List.range l0.length).all (atB l0 l1) = false := range_bad hlt
    have step : ∀ n, impl_ValidScope.l0 (n + 1) l0 (l0.length : Int) (k : Int) l0 l1 = if atB l0 l1 k = true then impl_ValidScope.l0 n l0 (l0.length : Int) ((k + 1 : Nat) : Int) l0 l1 else some false := by
      intro n
      simp only [impl_ValidScope.l0]
      rw [if_pos (by omega), if_pos (by omega), if_pos (by omega), e0, hn, Option.bind_some]
      unfold atB
      cases b1 : nameB (l0.getD k ByteArray.empty)
      · simp
      · simp only [if_true, Bool.true_and]
        rw [if_pos (by omega), e1, hv, Option.bind_some]
        cases b2 : waveB (l1.getD k ByteArray.empty)
        · simp
        · simp only [if_true, Bool.and_true]
          by_cases h0 : k = 0
          · subst h0
            rw [if_neg (by decide), hw]; simp
          · have e2 : wrap64 ((k : Int) - 1) = ((k - 1 : Nat) : Int) := by rw [w64' (by omega) (by omega)]; omega
            have e3 : rdOf ByteArray.empty l0 ((k - 1 : Nat) : Int) = l0.getD (k - 1) ByteArray.empty := by simp [rdOf]
            rw [if_pos (by omega), e2, if_pos (by omega), if_pos (by omega), e3, hw, decide_eq_false h0, Bool.false_or]
    refine Ev.step (f := fun n => if atB l0 l1 k = true then impl_ValidScope.l0 n l0 (l0.length : Int) ((k + 1 : Nat) : Int) l0 l1 else some false) step ?_
    cases hk2 : atB l0 l1 k
    · rw [bad hk2]; exact ev_const (fun n => rfl)
    · simp only [if_true]
      exact ev_scopeLoop l0 l1 h6 hl hs0 hs1 t (k + 1) (by omega) (range_next ha hk2)
theorem ev_implScope (l0 l1 : List ByteArray) (h0 : l0.length ≤ 1048576) (h1 : l1.length ≤ 1048576) (hs0 : ∀ s ∈ l0, s.size ≤ 1048576) (hs1 : ∀ s ∈ l1, s.size ≤ 1048576) : Ev (fun n => impl_ValidScope.f n l0 l1) (scopeB l0 l1) := by
  have no : Ev (fun n => impl_ValidScope.j0 n true l0 l1) false := Ev.step (f := fun _ => some false) (fun k => rfl) (Ev.now _)
  unfold impl_ValidScope.f scopeB
  by_cases c : (l0.length : Int) > 6
  · simp only [if_pos c]
    rw [decide_eq_false (fun z => by omega), Bool.false_and]; exact no
  · simp only [if_neg c]
    by_cases c2 : l1.length = l0.length
    · rw [decide_eq_true ⟨by omega, c2⟩, Bool.true_and, show ((l1.length : Int) != (l0.length : Int)) = false by simp; omega]
      refine Ev.step (f := fun n => impl_ValidScope.l0 n l0 (l0.length : Int) 0 l0 l1) (fun n => rfl) ?_
      exact ev_scopeLoop l0 l1 (by omega) c2 hs0 hs1 l0.length 0 (by omega) rfl
    · rw [decide_eq_false (fun z => c2 z.2), Bool.false_and, show ((l1.length : Int) != (l0.length : Int)) = true by simp; omega]; exact no
theorem specScope (l0 l1 : List ByteArray) (hs0 : ∀ s ∈ l0, s.size ≤ 1048576) (hs1 : ∀ s ∈ l1, s.size ≤ 1048576) : spec_ValidScope.f l0 l1 = some (scopeB l0 l1) := by
  unfold spec_ValidScope.f
  rw [if_pos ⟨fun s h => Nat.le_trans (hs0 s h) (by decide), fun s h => Nat.le_trans (hs1 s h) (by decide)⟩]
theorem ev_szScope (l0 l1 : List ByteArray) (h0 : l0.length ≤ maxLen) (h1 : l1.length ≤ maxLen) (hs0 : ∀ s ∈ l0, s.size ≤ maxLen) (hs1 : ∀ s ∈ l1, s.size ≤ maxLen) : ∃ r, Ev (fun k => laws_szScope.f k l0 l1 1048576) r ∧ (r < 0 ∨ 0 ≤ r ∧ bulk l0 + l0.length + bulk l1 + l1.length ≤ 1048576) := by
  obtain ⟨r, hr, hrr⟩ := ev_sz l0 1048576 (by decide) (by decide) h0 hs0
  unfold laws_szScope.f
  by_cases c : r < 0
  · exact ⟨-1, Ev.bind hr (by simp only [if_pos c]; exact Ev.now _), .inl (by decide)⟩
  · obtain ⟨hr0, hr1⟩ : 0 ≤ r ∧ r + bulk l0 + l0.length = 1048576 := by rcases hrr with h | h; exact absurd h c; exact h
    obtain ⟨q, hq, hqq⟩ := ev_sz l1 r hr0 (by omega) h1 hs1
    by_cases c2 : q < 0
    · exact ⟨-1, Ev.bind hr (by simp only [if_neg c]; exact Ev.bind hq (by simp only [if_pos c2]; exact Ev.now _)), .inl (by decide)⟩
    · obtain ⟨hq0, hq1⟩ : 0 ≤ q ∧ q + bulk l1 + l1.length = r := by rcases hqq with h | h; exact absurd h c2; exact h
      exact ⟨q, Ev.bind hr (by simp only [if_neg c]; exact Ev.bind hq (by simp only [if_neg c2]; exact Ev.now _)), .inr ⟨hq0, by omega⟩⟩
theorem ev_toScope (l0 l1 : List ByteArray) (h0 : l0.length ≤ 1048576) (h1 : l1.length ≤ 1048576) : Ev (fun k => laws_toScope.f k l0 l1) (l0, l1) := by
  unfold laws_toScope.f
  exact Ev.bind (ev_to l0 h0) (Ev.bind (ev_to l1 h1) (Ev.now _))
theorem ev_eqScope (l0 l1 : List ByteArray) (h0 : l0.length ≤ 1048576) (h1 : l1.length ≤ 1048576) : Ev (fun k => laws_eqScope.f k l0 l1 l0 l1) true := by
  unfold laws_eqScope.f
  exact Ev.bind (ev_eqs l0 h0) (by simp only [if_true]; exact Ev.bind (ev_eqs l1 h1) (by simp only [if_true]; exact Ev.now _))
end Go.Proofs.YtjpjlobpglmoiaaDoor.Pure
