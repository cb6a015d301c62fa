/- Journals of the program and of the reference: the same lines. No conditions. -/
import Derived.Test.YtjpjlobpglmoiaaDoorQ23
import Derived.Test.YtjpjlobpglmoiaaDoorQ24
namespace Go.Proofs.YtjpjlobpglmoiaaDoor.Pure
set_option linter.unusedVariables false
set_option linter.unusedSimpArgs false
open Go.RowKit Go.Proofs.YtjpjlobpglmoiaaDoor.A Go.Proofs.YtjpjlobpglmoiaaDoorW.PrintWords Go.Proofs.YtjpjlobpglmoiaaDoorW.PrintLast Go.Proofs.YtjpjlobpglmoiaaDoorW.PrintMore
theorem implCheck_loop (s : ByteArray) (hs : s.size ≤ 1048576) : ∀ (d i : Nat) (n : Int), i + d = s.size → 0 ≤ n → n ≤ 64900 → ∀ K, impl_CheckOf.l0 (K + d + 1) n s (s.size : Int) (i : Int) = some (chkL n (s.data.toList.drop i), true)
  | 0, i, n, hi, h0, h1, K => by
    have hl : s.data.toList.length = s.size := by simp
    simp only [impl_CheckOf.l0]
    rw [if_neg (by omega), List.drop_of_length_le (by omega)]; rfl
  | d + 1, i, n, hi, h0, h1, K => by
    have hl : s.data.toList.length = s.size := by simp
    have hb : (s.data.toList[i]'(by omega)).toNat < 256 := (s.data.toList[i]'(by omega)).toNat_lt
    have ih := implCheck_loop s hs d (i + 1) ((307 * n + ((s.data.toList[i]'(by omega)).toNat : Int) + 13) % 64901) (by omega) (by omega) (by omega) K
    show impl_CheckOf.l0 (K + d + 1 + 1) n s (s.size : Int) (i : Int) = _
    obtain ⟨M, hM⟩ : ∃ M, K + d + 1 = M := ⟨_, rfl⟩
    rw [hM] at ih ⊢
    simp only [impl_CheckOf.l0]
    rw [if_pos (by omega), if_pos (by omega), if_pos (by omega), bt_val s i (by omega), List.drop_eq_getElem_cons (by omega)]
    obtain ⟨x, hx⟩ : ∃ x, (s.data.toList[i]'(by omega)) = x := ⟨_, rfl⟩
    rw [hx] at ih hb ⊢
    rw [w64' (x := 307 * n) (by omega) (by omega), w64' (x := (x.toNat : Int)) (by omega) (by omega), w64' (x := 307 * n + (x.toNat : Int)) (by omega) (by omega),
      w64' (x := 307 * n + (x.toNat : Int) + 13) (by omega) (by omega), Int.tmod_eq_emod_of_nonneg (by omega), show wrap64 ((i : Int) + 1) = ((i + 1 : Nat) : Int) by unfold wrap64; omega, ih]
    rfl
theorem within_is (a b c : Int) : impl_within.f a b c = some (decide (b ≤ a ∧ a ≤ c)) := by
  unfold impl_within.f
  by_cases h : a ≥ b
  · rw [if_pos h]; have h' : b ≤ a := h; simp [h']
  · rw [if_neg h]; have h' : ¬ b ≤ a := h; simp [h']
theorem ev_line (s : ByteArray) (hs : s.size ≤ 1048576) (n : Int) (h0 : 0 ≤ n) (h1 : n ≤ 64900) : Ev (fun k => impl_journalLine.f k n s) (jline n s, chk n s) := by
  have hc := chkL_le s.data.toList n h0 h1
  have hd := dec_size (chk n s) hc.1 hc.2
  have hD : impl_Decimal.f (chk n s) = some (dec (chk n s)) := by
    have h2 : 0 ≤ chk n s ∧ chk n s ≤ 64900 := hc
    unfold impl_Decimal.f dec; rw [if_pos (by omega)]
  unfold impl_journalLine.f
  refine Ev.bind (a := (chk n s, true)) ?_ ?_
  · unfold impl_CheckOf.f
    rw [within_is, decide_eq_true ⟨h0, h1⟩]
    simp only [Option.bind_some, if_true]
    refine ⟨s.size + 1, fun k hk => ?_⟩
    have h := implCheck_loop s hs s.size 0 n (by omega) h0 h1 (k - (s.size + 1))
    rw [show k - (s.size + 1) + s.size + 1 = k by omega] at h
    exact h
  · rw [hD]
    simp only [Option.bind_some]
    have e1 : (⟨#[32]⟩ : ByteArray).size = 1 := rfl
    have q2 : (dec (chk n s) ++ (⟨#[32]⟩ : ByteArray)).size + s.size ≤ 9223372036854775807 := by rw [size_app]; omega
    have q3 : ((dec (chk n s) ++ (⟨#[32]⟩ : ByteArray)) ++ s).size + 1 ≤ 9223372036854775807 := by rw [size_app, size_app]; omega
    rw [if_pos (by omega), if_pos q2, if_pos q3]
    exact Ev.now _
/-- Does a text have a newline. -/
def hasNl (s : ByteArray) : Bool := s.data.toList.contains 10
theorem index_has : ∀ (l : List UInt8) (c : UInt8), decide (0 ≤ Lib.indexByte l c) = l.contains c
  | [], c => rfl
  | b :: l, c => by
    have ih := index_has l c
    have hg := Lib.indexByte_ge l c
    unfold Lib.indexByte
    rw [List.contains_cons]
    cases h : b == c
    · have h' : (c == b) = false := by
        rw [beq_eq_false_iff_ne] at h ⊢; exact fun e => h e.symm
      rw [if_neg (by decide), h', Bool.false_or, ← ih]
      by_cases k : Lib.indexByte l c = -1
      · rw [if_pos (by simp [k]), k]
      · rw [if_neg (by simp [k])]
        rw [decide_eq_decide]; omega
    · have h' : (c == b) = true := by
        rw [beq_iff_eq] at h ⊢; exact h.symm
      rw [if_pos rfl, h', Bool.true_or]; rfl
theorem contains_is (s : ByteArray) : strings_Contains.f s (⟨#[10]⟩ : ByteArray) = some (hasNl s) := by
  unfold strings_Contains.f
  rw [if_pos (show (⟨#[10]⟩ : ByteArray).size = 1 from rfl)]
  exact congrArg some (index_has _ _)
/-- A journal's text, or not. -/
def jourB (l : List ByteArray) : ByteArray × Bool := if l.all (fun s => !hasNl s) = true ∧ (jst l).1.size ≤ 4000 then ((jst l).1, true) else (⟨#[]⟩, false)
theorem snoc_ind {P : List ByteArray → Prop} (h0 : P []) (h1 : ∀ l s, P l → P (l ++ [s])) (l : List ByteArray) : P l := by
  have h : ∀ m : List ByteArray, P m.reverse := by
    intro m
    induction m with
    | nil => exact h0
    | cons x m ih => rw [List.reverse_cons]; exact h1 _ _ ih
  have := h l.reverse
  rwa [List.reverse_reverse] at this
theorem jst_mono (p l : List ByteArray) : (jst p).1.size ≤ (jst (p ++ l)).1.size := by
  induction l using snoc_ind with
  | h0 => rw [List.append_nil]; exact Nat.le_refl _
  | h1 l s ih =>
    rw [← List.append_assoc, jst_snoc]
    show _ ≤ ((jst (p ++ l)).1 ++ jline (jst (p ++ l)).2 s).size
    rw [size_app]; omega
theorem chk_st (l : List ByteArray) : 0 ≤ (jst l).2 ∧ (jst l).2 ≤ 64900 := by
  induction l using snoc_ind with
  | h0 => exact ⟨Int.le_refl 0, by show (0 : Int) ≤ 64900; decide⟩
  | h1 l s ih => rw [jst_snoc]; exact chkL_le _ _ ih.1 ih.2
def three : List ByteArray → Nat
  | [] => 0
  | s :: l => s.size + 3 + three l
theorem three_snoc (l : List ByteArray) (s : ByteArray) : three (l ++ [s]) = three l + (s.size + 3) := by
  induction l with
  | nil => simp [three]
  | cons x l ih => simp only [List.cons_append, three, ih]; omega
theorem three_le (l : List ByteArray) : three l ≤ (jst l).1.size := by
  induction l using snoc_ind with
  | h0 => exact Nat.zero_le _
  | h1 l s ih =>
    rw [jst_snoc, three_snoc]
    have h := chk_st l
    have hl := jline_size (jst l).2 s h.1 h.2
    show _ ≤ ((jst l).1 ++ jline (jst l).2 s).size
    rw [size_app]; omega
theorem jour_no {l : List ByteArray} (h : l.all (fun s => !hasNl s) = false ∨ 4000 < (jst l).1.size) : jourB l = (⟨#[]⟩, false) := by
  unfold jourB
  rw [if_neg]
  rintro ⟨h1, h2⟩
  rcases h with h | h
  · rw [h] at h1; exact absurd h1 (by decide)
  · omega
theorem has_no (p l : List ByteArray) (s : ByteArray) (h : hasNl s = true) : (p ++ s :: l).all (fun s => !hasNl s) = false := by
  rw [List.all_append, List.all_cons, h]; simp
theorem ev_implJour : ∀ (l p : List ByteArray), (p ++ l).length ≤ 1048576 → (∀ s ∈ p ++ l, s.size ≤ 1048576) → p.all (fun s => !hasNl s) = true → (jst p).1.size ≤ 4000 →
    Ev (fun k => impl_JournalOf.l0 k (jst p).1 (jst p).2 (p ++ l) ((p ++ l).length : Int) (p.length : Int)) (jourB (p ++ l))
  | [], p, hl, hs, ha, hz => by
    refine Ev.step (f := fun _ => some ((jst p).1, true)) (fun k => by simp only [impl_JournalOf.l0]; rw [if_neg (by simp)]) ?_
    have e : jourB (p ++ []) = ((jst p).1, true) := by unfold jourB; rw [List.append_nil, if_pos ⟨ha, hz⟩]
    rw [e]; exact Ev.now _
  | s :: l, p, hl, hs, ha, hz => by
    have hx := hs s (by simp)
    have hc := chk_st p
    have hls := jline_size (jst p).2 s hc.1 hc.2
    have hp : (jst (p ++ [s])).1 = (jst p).1 ++ jline (jst p).2 s ∧ (jst (p ++ [s])).2 = chk (jst p).2 s := by rw [jst_snoc]; exact ⟨rfl, rfl⟩
    have happ : p ++ s :: l = (p ++ [s]) ++ l := by simp
    have q : (jst p).1.size + (jline (jst p).2 s).size ≤ 9223372036854775807 := by omega
    have hll : p.length < (p ++ s :: l).length := by simp
    refine Ev.step (f := fun k => (impl_journalLine.f k (jst p).2 s).bind fun r => if (jst p).1.size + r.1.size ≤ 9223372036854775807 then (if hasNl s = true then some ((⟨#[]⟩ : ByteArray), false) else (if (((jst p).1 ++ r.1).size : Int) > 4000 then some ((⟨#[]⟩ : ByteArray), false) else impl_JournalOf.l0 k ((jst p).1 ++ r.1) r.2 (p ++ s :: l) ((p ++ s :: l).length : Int) ((p.length : Int) + 1))) else none) (fun k => ?_) (Ev.bind (ev_line s hx (jst p).2 hc.1 hc.2) ?_)
    · simp only [impl_JournalOf.l0]
      rw [if_pos (by omega), if_pos (by omega), if_pos (by omega), rds p s l _ rfl, contains_is, w64' (x := (p.length : Int) + 1) (by omega) (by omega)]
      rfl
    · simp only [if_pos q]
      cases hn : hasNl s
      · simp only [if_neg (show ¬ (false = true) by decide)]
        by_cases c : (((jst p).1 ++ jline (jst p).2 s).size : Int) > 4000
        · simp only [if_pos c]
          rw [jour_no (.inr (by have h3 := jst_mono (p ++ [s]) l; rw [← happ, hp.1] at h3; omega))]
          exact Ev.now _
        · simp only [if_neg c]
          have ih := ev_implJour l (p ++ [s]) (by rw [← happ]; exact hl) (by rw [← happ]; exact hs) (by rw [List.all_append, ha]; simp [hn]) (by rw [hp.1]; omega)
          rw [hp.1, hp.2, ← happ, show ((p ++ [s]).length : Int) = (p.length : Int) + 1 by simp] at ih
          exact ih
      · simp only [if_true]
        rw [jour_no (.inl (has_no p l s hn))]
        exact Ev.now _
theorem ev_nl (L : List ByteArray) (T : Int) (i : Nat) (hi : i < L.length) (hL : L.length ≤ 1048576) (s : ByteArray) (hs : s.size ≤ 1048576) (he : rdOf ByteArray.empty L (i : Int) = s) (R : ByteArray × Bool) (hR : Ev (fun k => spec_JournalOf.l0 k L T ((i : Int) + 1)) R) :
    ∀ (d j : Nat), j + d = s.size → Ev (fun k => spec_JournalOf.l1 k L T (i : Int) (j : Int)) (if (s.data.toList.drop j).contains 10 = true then (⟨#[]⟩, false) else R)
  | 0, j, hj => by
    have hl : s.data.toList.length = s.size := by simp
    rw [List.drop_of_length_le (by omega), if_neg (by simp)]
    refine Ev.step (f := fun k => spec_JournalOf.l0 k L T ((i : Int) + 1)) (fun k => ?_) hR
    simp only [spec_JournalOf.l1]
    rw [if_pos (by omega), if_pos (by omega), he, if_neg (by omega), w64' (x := (i : Int) + 1) (by omega) (by omega)]
  | d + 1, j, hj => by
    have hl : s.data.toList.length = s.size := by simp
    have ih := ev_nl L T i hi hL s hs he R hR d (j + 1) (by omega)
    rw [List.drop_eq_getElem_cons (by omega), List.contains_cons]
    have hb := bt_val s j (by omega)
    obtain ⟨x, hx⟩ : ∃ x, (s.data.toList[j]'(by omega)) = x := ⟨_, rfl⟩
    rw [hx] at hb ⊢
    by_cases c : (x.toNat : Int) = 10
    · have e : ((10 : UInt8) == x) = true := by
        rw [beq_iff_eq]; exact (UInt8.toNat_inj.1 (by show (10 : UInt8).toNat = x.toNat; have : (10 : UInt8).toNat = 10 := rfl; omega))
      rw [e, Bool.true_or, if_pos rfl]
      refine Ev.step (f := fun _ => some ((⟨#[]⟩ : ByteArray), false)) (fun k => ?_) (Ev.now _)
      simp only [spec_JournalOf.l1]
      rw [if_pos (by omega), if_pos (by omega), he, if_pos (by omega), if_pos (by omega), hb, if_pos c]
    · have e : ((10 : UInt8) == x) = false := by
        rw [beq_eq_false_iff_ne]; intro h; apply c; rw [← h]; rfl
      rw [e, Bool.false_or]
      refine Ev.step (f := fun k => spec_JournalOf.l1 k L T (i : Int) ((j + 1 : Nat) : Int)) (fun k => ?_) ih
      simp only [spec_JournalOf.l1]
      rw [if_pos (by omega), if_pos (by omega), he, if_pos (by omega), if_pos (by omega), hb, if_neg c, show wrap64 ((j : Int) + 1) = ((j + 1 : Nat) : Int) by rw [w64' (by omega) (by omega)]; rfl]
theorem ev_nl_yes (L : List ByteArray) (T : Int) (i : Nat) (hi : i < L.length) (hL : L.length ≤ 1048576) (s : ByteArray) (hs : s.size ≤ 1048576) (he : rdOf ByteArray.empty L (i : Int) = s) :
    ∀ (d j : Nat), j + d = s.size → (s.data.toList.drop j).contains 10 = true → Ev (fun k => spec_JournalOf.l1 k L T (i : Int) (j : Int)) (⟨#[]⟩, false)
  | 0, j, hj, h => by
    have hl : s.data.toList.length = s.size := by simp
    rw [List.drop_of_length_le (by omega)] at h
    exact absurd h (by simp)
  | d + 1, j, hj, h => by
    have hl : s.data.toList.length = s.size := by simp
    rw [List.drop_eq_getElem_cons (by omega), List.contains_cons] at h
    have hb := bt_val s j (by omega)
    obtain ⟨x, hx⟩ : ∃ x, (s.data.toList[j]'(by omega)) = x := ⟨_, rfl⟩
    rw [hx] at hb h
    by_cases c : (x.toNat : Int) = 10
    · refine Ev.step (f := fun _ => some ((⟨#[]⟩ : ByteArray), false)) (fun k => ?_) (Ev.now _)
      simp only [spec_JournalOf.l1]
      rw [if_pos (by omega), if_pos (by omega), he, if_pos (by omega), if_pos (by omega), hb, if_pos c]
    · have e : ((10 : UInt8) == x) = false := by
        rw [beq_eq_false_iff_ne]; intro h; apply c; rw [← h]; rfl
      rw [e, Bool.false_or] at h
      refine Ev.step (f := fun k => spec_JournalOf.l1 k L T (i : Int) ((j + 1 : Nat) : Int)) (fun k => ?_) (ev_nl_yes L T i hi hL s hs he d (j + 1) (by omega) h)
      simp only [spec_JournalOf.l1]
      rw [if_pos (by omega), if_pos (by omega), he, if_pos (by omega), if_pos (by omega), hb, if_neg c, show wrap64 ((j : Int) + 1) = ((j + 1 : Nat) : Int) by rw [w64' (by omega) (by omega)]; rfl]
theorem ev_specJour : ∀ (l p : List ByteArray), (p ++ l).length ≤ 1048576 → (∀ s ∈ p ++ l, s.size ≤ 1048576) → p.all (fun s => !hasNl s) = true → three p ≤ 4000 →
    Ev (fun k => spec_JournalOf.l0 k (p ++ l) (three p : Int) (p.length : Int)) (jourB (p ++ l))
  | [], p, hl, hs, ha, hz => by
    have hf : spec_l11Journal.f (p ++ []) = some (jst (p ++ [])).1 := by unfold spec_l11Journal.f; rw [if_pos ⟨hl, hs⟩]
    refine Ev.step (f := fun _ => if ((jst (p ++ [])).1.size : Int) > 4000 then some ((⟨#[]⟩ : ByteArray), false) else some ((jst (p ++ [])).1, true)) (fun k => by simp only [spec_JournalOf.l0]; rw [if_neg (by simp), hf]; rfl) ?_
    by_cases c : ((jst (p ++ [])).1.size : Int) > 4000
    · simp only [if_pos c]
      rw [jour_no (.inr (by omega))]; exact Ev.now _
    · simp only [if_neg c]
      have e : jourB (p ++ []) = ((jst (p ++ [])).1, true) := by unfold jourB; rw [if_pos ⟨by rw [List.append_nil]; exact ha, by omega⟩]
      rw [e]; exact Ev.now _
  | s :: l, p, hl, hs, ha, hz => by
    have hx := hs s (by simp)
    have happ : p ++ s :: l = (p ++ [s]) ++ l := by simp
    have h3 := three_snoc p s
    have hll : p.length < (p ++ s :: l).length := by simp
    have e0 : ∀ k, spec_JournalOf.l0 (k + 1) (p ++ s :: l) (three p : Int) (p.length : Int) = if ((three (p ++ [s]) : Nat) : Int) > 4000 then some ((⟨#[]⟩ : ByteArray), false) else spec_JournalOf.l1 k (p ++ s :: l) ((three (p ++ [s]) : Nat) : Int) (p.length : Int) 0 := by
      intro k
      simp only [spec_JournalOf.l0]
      rw [if_pos (by omega), if_pos (by omega), rds p s l _ rfl, w64' (x := (s.size : Int) + 3) (by omega) (by omega), w64' (x := (three p : Int) + ((s.size : Int) + 3)) (by omega) (by omega), show (three p : Int) + ((s.size : Int) + 3) = ((three (p ++ [s]) : Nat) : Int) by omega]
    by_cases c : ((three (p ++ [s]) : Nat) : Int) > 4000
    · refine Ev.step (f := fun _ => some ((⟨#[]⟩ : ByteArray), false)) (fun k => by rw [e0, if_pos c]) ?_
      have h4 := three_le (p ++ [s])
      have h5 := jst_mono (p ++ [s]) l
      rw [← happ] at h5
      rw [jour_no (.inr (by omega))]; exact Ev.now _
    · refine Ev.step (f := fun k => spec_JournalOf.l1 k (p ++ s :: l) ((three (p ++ [s]) : Nat) : Int) (p.length : Int) 0) (fun k => by rw [e0, if_neg c]) ?_
      cases hn : hasNl s
      · have ih := ev_specJour l (p ++ [s]) (by rw [← happ]; exact hl) (by rw [← happ]; exact hs) (by rw [List.all_append, ha]; simp [hn]) (by omega)
        rw [← happ, show ((p ++ [s]).length : Int) = (p.length : Int) + 1 by simp] at ih
        have h := ev_nl (p ++ s :: l) ((three (p ++ [s]) : Nat) : Int) p.length hll hl s hx (rds p s l _ rfl) _ ih s.size 0 (by omega)
        rw [List.drop_zero, show s.data.toList.contains 10 = false from hn, if_neg (by decide)] at h
        exact h
      · rw [jour_no (.inl (has_no p l s hn))]
        exact ev_nl_yes (p ++ s :: l) ((three (p ++ [s]) : Nat) : Int) p.length hll hl s hx (rds p s l _ rfl) s.size 0 (by omega) (by rw [List.drop_zero]; exact hn)
end Go.Proofs.YtjpjlobpglmoiaaDoor.Pure
