/- The table of numbers (linear probing, no number is ever taken out): put tells whether a number is new. No conditions. -/
import Derived.Test.YtgmnbpdfdagniaaQ2
namespace Go.Proofs.Ytgmnbpdfdagniaa.A
open Go.RowKit Go.Proofs.YtgmnbpdfdagniaaW.PrintWords Go.Proofs.YtgmnbpdfdagniaaW.PrintLast Go.Proofs.YtgmnbpdfdagniaaW.PrintMore
set_option linter.unusedVariables false
set_option linter.unusedSimpArgs false
/-- The place d behind a number's own one. -/
def slot (n : Nat) (k : Int) (d : Nat) : Nat := (k.toNat + d) % n
/-- A table holds the numbers of which M tells: each lies behind its own place with no gap between; c places are taken. -/
structure Good (tb : List Int) (c : Int) (M : Int → Prop) : Prop where
  nn : ∀ p, 0 ≤ tb.getD p 0
  sound : ∀ p, 0 < tb.getD p 0 → M (tb.getD p 0 - 1)
  path : ∀ k, M k → 0 ≤ k ∧ ∃ d, d < tb.length ∧ tb.getD (slot tb.length k d) 0 = k + 1 ∧ ∀ e, e < d → 0 < tb.getD (slot tb.length k e) 0
  count : c = ((tb.filter (fun x => decide (0 < x))).length : Int)
theorem filter_set (p : Int → Bool) : ∀ (l : List Int) (i : Nat) (v : Int), i < l.length → p (l.getD i 0) = false → p v = true → ((l.set i v).filter p).length = (l.filter p).length + 1
  | [], i, v, h, _, _ => by simp at h
  | x :: xs, 0, v, h, hx, hv => by
    have hx' : p x = false := by simpa using hx
    simp [List.set, List.filter_cons, hx', hv]
  | x :: xs, i + 1, v, h, hx, hv => by
    have ih := filter_set p xs i v (by simpa using h) (by simpa using hx) hv
    simp only [List.set_cons_succ, List.filter_cons]
    split <;> simp [ih]
theorem filter_all (p : Int → Bool) : ∀ (l : List Int), (∀ i, i < l.length → p (l.getD i 0) = true) → (l.filter p).length = l.length
  | [], _ => rfl
  | x :: xs, h => by
    have h0 : p x = true := by simpa using h 0 (by simp)
    have ih := filter_all p xs (fun i hi => by simpa using h (i + 1) (by simpa using hi))
    simp [List.filter_cons, h0, ih]
/-- The first place behind that is free or has the number. -/
theorem probe_finds (tb : List Int) (key : Int) (hk : 0 ≤ key) (hk2 : key < 4611686018427387904) (hn : 0 < tb.length) (hl : tb.length < 1099511627776) : ∀ (d s K : Nat), d < K → (∀ e, e < d → 0 < tb.getD (slot tb.length key (s + e)) 0 ∧ tb.getD (slot tb.length key (s + e)) 0 ≠ key + 1) → ¬ (0 < tb.getD (slot tb.length key (s + d)) 0 ∧ tb.getD (slot tb.length key (s + d)) 0 ≠ key + 1) →
    probe K tb key (slot tb.length key s : Nat) = some ((slot tb.length key (s + d) : Nat) : Int) := by
  intro d
  induction d with
  | zero =>
    intro s K hK _ hs
    rw [Nat.add_zero] at hs
    obtain ⟨K, rfl⟩ : ∃ m, K = m + 1 := ⟨K - 1, by omega⟩
    have hlt : slot tb.length key s < tb.length := Nat.mod_lt _ hn
    simp only [probe]
    rw [if_pos ⟨by omega, by omega⟩]
    have hw : wrap64 (key + 1) = key + 1 := by unfold wrap64; omega
    have hr : rd tb ((slot tb.length key s : Nat) : Int) = tb.getD (slot tb.length key s) 0 := by unfold rd; rw [Int.toNat_natCast]
    rw [hw, hr, if_neg hs]
    rfl
  | succ d ih =>
    intro s K hK hb hs
    obtain ⟨K, rfl⟩ : ∃ m, K = m + 1 := ⟨K - 1, by omega⟩
    have hlt : slot tb.length key s < tb.length := Nat.mod_lt _ hn
    have h0 := hb 0 (by omega)
    rw [Nat.add_zero] at h0
    have hw : wrap64 (key + 1) = key + 1 := by unfold wrap64; omega
    have hr : rd tb ((slot tb.length key s : Nat) : Int) = tb.getD (slot tb.length key s) 0 := by unfold rd; rw [Int.toNat_natCast]
    have hnext : Int.tmod (wrap64 (((slot tb.length key s : Nat) : Int) + 1)) (tb.length : Int) = ((slot tb.length key (s + 1) : Nat) : Int) := by
      rw [show wrap64 (((slot tb.length key s : Nat) : Int) + 1) = ((slot tb.length key s + 1 : Nat) : Int) by unfold wrap64; omega, Int.tmod_eq_emod_of_nonneg (by omega), ← Int.natCast_emod]
      congr 1
      unfold slot
      rw [Nat.mod_add_mod]
      rfl
    simp only [probe]
    rw [if_pos ⟨by omega, by omega⟩, hw, hr, if_pos h0, hnext, ih (s + 1) K (by omega) (fun e he => by have := hb (e + 1) (by omega); rwa [show s + (e + 1) = s + 1 + e by omega] at this) (by rwa [show s + (d + 1) = s + 1 + d by omega] at hs)]
    rw [show s + 1 + d = s + (d + 1) by omega]
/-- Some place behind is free or has the number, if one place is free. -/
theorem probe_ends (tb : List Int) (key : Int) (hn : 0 < tb.length) (q : Nat) (hq : q < tb.length) (h0 : ¬ 0 < tb.getD q 0) : ∃ d, d < tb.length ∧ (∀ e, e < d → 0 < tb.getD (slot tb.length key e) 0 ∧ tb.getD (slot tb.length key e) 0 ≠ key + 1) ∧ ¬ (0 < tb.getD (slot tb.length key d) 0 ∧ tb.getD (slot tb.length key d) 0 ≠ key + 1) := by
  have hex : ∃ d, d < tb.length ∧ ¬ (0 < tb.getD (slot tb.length key d) 0 ∧ tb.getD (slot tb.length key d) 0 ≠ key + 1) := by
    refine ⟨(q + tb.length - key.toNat % tb.length) % tb.length, Nat.mod_lt _ hn, fun h => h0 ?_⟩
    have hs : slot tb.length key ((q + tb.length - key.toNat % tb.length) % tb.length) = q := by
      unfold slot
      have hm : key.toNat % tb.length < tb.length := Nat.mod_lt _ hn
      rw [Nat.add_mod_mod, ← Nat.mod_add_mod, show key.toNat % tb.length + (q + tb.length - key.toNat % tb.length) = q + tb.length by omega, Nat.add_mod_right, Nat.mod_eq_of_lt hq]
    rw [hs] at h
    exact h.1
  obtain ⟨d, hd, hs⟩ := hex
  induction d using Nat.strongRecOn with
  | _ d ih =>
    by_cases hall : ∀ e, e < d → 0 < tb.getD (slot tb.length key e) 0 ∧ tb.getD (slot tb.length key e) 0 ≠ key + 1
    · exact ⟨d, hd, hall, hs⟩
    · obtain ⟨e, he⟩ := Classical.not_forall.1 hall
      have he' : e < d ∧ ¬ (0 < tb.getD (slot tb.length key e) 0 ∧ tb.getD (slot tb.length key e) 0 ≠ key + 1) := by
        by_cases h : e < d
        · exact ⟨h, fun z => he (fun _ => z)⟩
        · exact absurd (fun z => absurd z h) he
      exact ih e he'.1 (by omega) he'.2
theorem slot_inj {n : Nat} {k : Int} {a b : Nat} (ha : a < n) (hb : b < n) (h : slot n k a = slot n k b) : a = b := by
  unfold slot at h
  have h1 := Nat.div_add_mod (k.toNat + a) n
  have h2 := Nat.div_add_mod (k.toNat + b) n
  rw [h] at h1
  have h3 : n * ((k.toNat + a) / n) + (k.toNat + b) = n * ((k.toNat + b) / n) + (k.toNat + a) := by omega
  rcases Nat.lt_trichotomy ((k.toNat + a) / n) ((k.toNat + b) / n) with hq | hq | hq
  · have : n * ((k.toNat + a) / n) + n ≤ n * ((k.toNat + b) / n) := by rw [← Nat.mul_succ]; exact Nat.mul_le_mul_left n hq
    omega
  · rw [hq] at h3; omega
  · have : n * ((k.toNat + b) / n) + n ≤ n * ((k.toNat + a) / n) := by rw [← Nat.mul_succ]; exact Nat.mul_le_mul_left n hq
    omega
theorem getD_set (l : List Int) (p q : Nat) (v : Int) (hp : p < l.length) : (l.set p v).getD q 0 = if q = p then v else l.getD q 0 := by
  by_cases h : q = p
  · subst h
    rw [if_pos rfl]
    simp [hp]
  · rw [if_neg h]
    simp only [List.getD_eq_getElem?_getD]
    rw [List.getElem?_set_ne (fun e => h e.symm)]
/-- What putEnd does to a table in which a place is free. -/
theorem putEnd_good {tb : List Int} {c key : Int} {M : Int → Prop} (h : Good tb c M) (hk : 0 ≤ key) (hk2 : key < 4611686018427387904) (hn : 0 < tb.length) (hl : tb.length < 1099511627776) (hfree : c < tb.length) (K : Nat) (hK : tb.length ≤ K) :
    (M key ∧ putEnd K tb c key = some (false, tb, c)) ∨ (¬ M key ∧ ∃ tb', putEnd K tb c key = some (true, tb', c + 1) ∧ tb'.length = tb.length ∧ Good tb' (c + 1) (fun k => k = key ∨ M k)) := by
  have hex : ∃ q, q < tb.length ∧ ¬ 0 < tb.getD q 0 := by
    by_cases hz : ∃ q, q < tb.length ∧ ¬ 0 < tb.getD q 0
    · exact hz
    · have := filter_all (fun x => decide (0 < x)) tb (fun i hi => decide_eq_true (by
        by_cases hx : 0 < tb.getD i 0
        · exact hx
        · exact absurd ⟨i, hi, hx⟩ hz))
      have := h.count
      omega
  obtain ⟨q, hq, hq0⟩ := hex
  obtain ⟨d, hd, hb, hs⟩ := probe_ends tb key hn q hq hq0
  have hp := probe_finds tb key hk hk2 hn hl d 0 K (by omega) (fun e he => by rw [Nat.zero_add]; exact hb e he) (by rw [Nat.zero_add]; exact hs)
  rw [Nat.zero_add] at hp
  have hst : Int.tmod key (tb.length : Int) = ((slot tb.length key 0 : Nat) : Int) := by
    obtain ⟨m, rfl⟩ := Int.eq_ofNat_of_zero_le hk
    rw [Int.tmod_eq_emod_of_nonneg hk, ← Int.natCast_emod]
    unfold slot
    rw [Int.toNat_natCast, Nat.add_zero]
  obtain ⟨P, hP⟩ : ∃ P, slot tb.length key d = P := ⟨_, rfl⟩
  have hPlt : P < tb.length := by rw [← hP]; exact Nat.mod_lt _ hn
  rw [hP] at hp hs
  have hw : wrap64 (key + 1) = key + 1 := by unfold wrap64; omega
  have hcl : (tb.filter (fun x => decide (0 < x))).length ≤ tb.length := List.length_filter_le _ _
  have hc0 : 0 ≤ c := by rw [h.count]; omega
  have hwc : wrap64 (c + 1) = c + 1 := by unfold wrap64; omega
  have hrd : rd tb (P : Int) = tb.getD P 0 := by unfold rd; rw [Int.toNat_natCast]
  have hE : putEnd K tb c key = if 0 < tb.getD P 0 then some (false, tb, c) else some (true, tb.set P (key + 1), c + 1) := by
    unfold putEnd
    rw [if_neg (by omega), hst, hp, Option.bind_some, if_pos ⟨by omega, by omega⟩, hrd, hw, hwc, Int.toNat_natCast]
  by_cases ht : 0 < tb.getD P 0
  · have hm : tb.getD P 0 = key + 1 := by
      by_cases he : tb.getD P 0 = key + 1
      · exact he
      · exact absurd ⟨ht, he⟩ hs
    refine .inl ⟨?_, by rw [hE, if_pos ht]⟩
    have := h.sound P ht
    rw [hm] at this
    simpa using this
  · have h0 : tb.getD P 0 = 0 := by have := h.nn P; omega
    have hno : ¬ M key := by
      intro hM
      obtain ⟨_, d2, hd2, he2, hp2⟩ := h.path key hM
      rcases Nat.lt_trichotomy d d2 with hlt | heq | hgt
      · have := hp2 d hlt; rw [hP] at this; omega
      · subst heq; rw [hP] at he2; omega
      · exact (hb d2 hgt).2 he2
    refine .inr ⟨hno, _, by rw [hE, if_neg ht], by simp, ?_⟩
    refine ⟨fun p => ?_, fun p hp0 => ?_, fun k hM => ?_, ?_⟩
    · rw [getD_set _ _ _ _ hPlt]
      split
      · omega
      · exact h.nn p
    · rw [getD_set _ _ _ _ hPlt] at hp0 ⊢
      split at hp0
      · rename_i hpp; rw [if_pos hpp]; exact .inl (by omega)
      · rename_i hpp; rw [if_neg hpp]; exact .inr (h.sound p hp0)
    · simp only [List.length_set]
      rcases hM with rfl | hM
      · refine ⟨hk, d, hd, ?_, fun e he => ?_⟩
        · rw [hP, getD_set _ _ _ _ hPlt, if_pos rfl]
        · rw [getD_set _ _ _ _ hPlt]
          split
          · omega
          · exact (hb e he).1
      · obtain ⟨hk0, d2, hd2, he2, hp2⟩ := h.path k hM
        refine ⟨hk0, d2, hd2, ?_, fun e he => ?_⟩
        · rw [getD_set _ _ _ _ hPlt, if_neg (fun e => by rw [e] at he2; omega)]; exact he2
        · rw [getD_set _ _ _ _ hPlt]
          split
          · omega
          · exact hp2 e he
    · rw [filter_set (fun x => decide (0 < x)) tb P (key + 1) hPlt (decide_eq_false ht) (decide_eq_true (by omega)), h.count]
      omega
theorem Good.congr {tb : List Int} {c : Int} {M M' : Int → Prop} (h : Good tb c M) (hm : ∀ k, M k ↔ M' k) : Good tb c M' :=
  ⟨h.nn, fun p hp => (hm _).1 (h.sound p hp), fun k hk => h.path k ((hm k).2 hk), h.count⟩
theorem Good.empty (n : Nat) : Good (List.replicate n 0) 0 (fun _ => False) := by
  have h0 : ∀ p, (List.replicate n (0 : Int)).getD p 0 = 0 := fun p => by
    simp only [List.getD_eq_getElem?_getD, List.getElem?_replicate]
    split <;> rfl
  refine ⟨fun p => by rw [h0 p]; omega, fun p hp => by rw [h0 p] at hp; omega, fun k hk => hk.elim, ?_⟩
  simp
/-- All numbers of an old table are put into one that has room for them. -/
theorem putAll_good (K : Nat) : ∀ (xs tb : List Int) (c : Int) (M : Int → Prop), Good tb c M → (∀ x ∈ xs, x < 4611686018427387904) → tb.length < 1099511627776 → tb.length ≤ K → 2 * (c + xs.length) < tb.length →
    ∃ tb' c', putAll (putF (K + 1)) xs tb c = some (tb', c') ∧ tb'.length = tb.length ∧ c' ≤ c + ((xs.filter (fun x => decide (0 < x))).length : Int) ∧ Good tb' c' (fun k => M k ∨ ∃ x, x ∈ xs ∧ 0 < x ∧ k = x - 1)
  | [], tb, c, M, h, _, _, _, _ => ⟨tb, c, rfl, rfl, by simp, h.congr (fun k => by simp)⟩
  | x :: xs, tb, c, M, h, hx, hl, hK, hr => by
    have hc0 : 0 ≤ c := by rw [h.count]; omega
    have hr' : 2 * (c + xs.length + 1) < tb.length := by simp at hr; omega
    simp only [putAll]
    by_cases h0 : 0 < x
    · rw [if_pos h0]
      have hxl := hx x (List.mem_cons_self ..)
      have hw : wrap64 (x - 1) = x - 1 := by unfold wrap64; omega
      have hF : putF (K + 1) tb c (x - 1) = putEnd K tb c (x - 1) := by
        simp only [putF]
        rw [if_neg (by omega), if_neg (by unfold wrap64; omega)]
      rw [hw, hF]
      rcases putEnd_good h (show 0 ≤ x - 1 by omega) (by omega) (by omega) hl (by omega) K hK with ⟨hM, he⟩ | ⟨hM, tb1, he, hlen, hg⟩
      · rw [he, Option.bind_some]
        obtain ⟨tb', c', e1, e2, e3, e4⟩ := putAll_good K xs tb c M h (fun y hy => hx y (List.mem_cons_of_mem _ hy)) hl hK (by omega)
        refine ⟨tb', c', e1, e2, by rw [List.filter_cons_of_pos (by simpa using h0), List.length_cons]; omega, e4.congr (fun k => ?_)⟩
        constructor
        · rintro (z | ⟨y, hy, z⟩)
          · exact .inl z
          · exact .inr ⟨y, List.mem_cons_of_mem _ hy, z⟩
        · rintro (z | ⟨y, hy, z1, z2⟩)
          · exact .inl z
          · rcases List.mem_cons.1 hy with e | hy
            · subst e; rw [z2]; exact .inl hM
            · exact .inr ⟨y, hy, z1, z2⟩
      · rw [he, Option.bind_some]
        obtain ⟨tb', c', e1, e2, e3, e4⟩ := putAll_good K xs tb1 (c + 1) _ hg (fun y hy => hx y (List.mem_cons_of_mem _ hy)) (by omega) (by omega) (by rw [hlen]; omega)
        refine ⟨tb', c', e1, by omega, by rw [List.filter_cons_of_pos (by simpa using h0), List.length_cons]; omega, e4.congr (fun k => ?_)⟩
        constructor
        · rintro ((z | z) | ⟨y, hy, z⟩)
          · exact .inr ⟨x, List.mem_cons_self .., h0, z⟩
          · exact .inl z
          · exact .inr ⟨y, List.mem_cons_of_mem _ hy, z⟩
        · rintro (z | ⟨y, hy, z1, z2⟩)
          · exact .inl (.inr z)
          · rcases List.mem_cons.1 hy with e | hy
            · subst e; exact .inl (.inl z2)
            · exact .inr ⟨y, hy, z1, z2⟩
    · rw [if_neg h0]
      obtain ⟨tb', c', e1, e2, e3, e4⟩ := putAll_good K xs tb c M h (fun y hy => hx y (List.mem_cons_of_mem _ hy)) hl hK (by omega)
      refine ⟨tb', c', e1, e2, by rw [List.filter_cons_of_neg (by simpa using h0)]; exact e3, e4.congr (fun k => ?_)⟩
      constructor
      · rintro (z | ⟨y, hy, z⟩)
        · exact .inl z
        · exact .inr ⟨y, List.mem_cons_of_mem _ hy, z⟩
      · rintro (z | ⟨y, hy, z1, z2⟩)
        · exact .inl z
        · rcases List.mem_cons.1 hy with e | hy
          · subst e; exact absurd z1 h0
          · exact .inr ⟨y, hy, z1, z2⟩
theorem putEnd_good' {tb : List Int} {c key : Int} {M : Int → Prop} (h : Good tb c M) (hk : 0 ≤ key) (hk2 : key < 4611686018427387904) (hn : 0 < tb.length) (hl : tb.length < 1099511627776) (hfree : c < tb.length) (K : Nat) (hK : tb.length ≤ K) :
    ∃ tb' c' b, putEnd K tb c key = some (b, tb', c') ∧ (b = true ↔ ¬ M key) ∧ tb'.length = tb.length ∧ c' ≤ c + 1 ∧ (b = false → c' ≤ c) ∧ Good tb' c' (fun k => k = key ∨ M k) := by
  rcases putEnd_good h hk hk2 hn hl hfree K hK with ⟨hM, he⟩ | ⟨hM, tb1, he, hlen, hg⟩
  · exact ⟨tb, c, false, he, by simp [hM], rfl, by omega, fun _ => Int.le_refl _, h.congr (fun k => ⟨.inr, fun z => z.elim (fun e => e ▸ hM) id⟩)⟩
  · exact ⟨tb1, c + 1, true, he, by simp [hM], hlen, by omega, (fun e => by cases e), hg⟩
/-- put tells whether a number is new. -/
theorem putF_good {tb : List Int} {c key : Int} {M : Int → Prop} (h : Good tb c M) (hk : 0 ≤ key) (hk2 : key < 4611686018427387904) (hM : ∀ k, M k → k < 4611686018427387903) (hl : tb.length < 274877906944) (K : Nat) (hK : 2 * tb.length + 66 ≤ K) :
    ∃ tb' c' b, putF K tb c key = some (b, tb', c') ∧ (b = true ↔ ¬ M key) ∧ (tb'.length = tb.length ∨ (tb'.length : Int) ≤ 4 * c + 64) ∧ c' ≤ c + 1 ∧ (b = false → c' ≤ c) ∧ Good tb' c' (fun k => k = key ∨ M k) := by
  obtain ⟨K, rfl⟩ : ∃ m, K = m + 2 := ⟨K - 2, by omega⟩
  have hcl : (tb.filter (fun x => decide (0 < x))).length ≤ tb.length := List.length_filter_le _ _
  have hc0 : 0 ≤ c := by rw [h.count]; omega
  have hc1 : c ≤ tb.length := by rw [h.count]; omega
  have hS : putF (K + 2) tb c key = if 4398046511104 ≤ tb.length then none else if (tb.length : Int) ≤ wrap64 (2 * c) then (putAll (putF (K + 1)) tb (List.replicate (2 * tb.length + 64) 0) 0).bind fun t => putEnd (K + 1) t.1 t.2 key else putEnd (K + 1) tb c key := rfl
  rw [hS, if_neg (by omega)]
  by_cases hg : (tb.length : Int) ≤ wrap64 (2 * c)
  · rw [if_pos hg]
    have hent : ∀ x ∈ tb, x < 4611686018427387904 := by
      intro x hx
      obtain ⟨i, hi, e⟩ := List.getElem_of_mem hx
      by_cases h0 : 0 < x
      · have h1 : tb.getD i 0 = x := by simp [hi, e]
        have h2 := h.sound i (by rw [h1]; exact h0)
        rw [h1] at h2
        have := hM _ h2
        omega
      · omega
    obtain ⟨tb1, c1, e1, e2, e3, e4⟩ := putAll_good K tb (List.replicate (2 * tb.length + 64) 0) 0 (fun _ => False) (Good.empty _) hent (by simp; omega) (by simp; omega) (by simp; omega)
    rw [List.length_replicate] at e2
    have e5 : Good tb1 c1 M := e4.congr (fun k => by
      constructor
      · rintro (z | ⟨x, hx, z1, z2⟩)
        · exact z.elim
        · obtain ⟨i, hi, e⟩ := List.getElem_of_mem hx
          have h1 : tb.getD i 0 = x := by simp [hi, e]
          have h2 := h.sound i (by rw [h1]; exact z1)
          rw [h1, ← z2] at h2
          exact h2
      · intro z
        obtain ⟨hk0, d, hd, he, _⟩ := h.path k z
        have hlt : slot tb.length k d < tb.length := Nat.mod_lt _ (by omega)
        refine .inr ⟨k + 1, ?_, by omega, by omega⟩
        rw [← he]
        simp [hlt])
    rw [e1, Option.bind_some]
    have hc2 : c1 ≤ c := by rw [h.count]; omega
    have hg2 : (tb.length : Int) ≤ 2 * c := by unfold wrap64 at hg; omega
    obtain ⟨tb', c', b, f1, f2, f3, f5, f6, f4⟩ := putEnd_good' e5 hk hk2 (by omega) (by omega) (by omega) (K + 1) (by omega)
    exact ⟨tb', c', b, f1, f2, .inr (by omega), by omega, (fun e => by have := f6 e; omega), f4⟩
  · rw [if_neg hg]
    have hlt : 2 * c < tb.length := by unfold wrap64 at hg; omega
    obtain ⟨tb', c', b, f1, f2, f3, f5, f6, f4⟩ := putEnd_good' h hk hk2 (by omega) (by omega) (by omega) (K + 1) (by omega)
    exact ⟨tb', c', b, f1, f2, .inl f3, f5, f6, f4⟩
end Go.Proofs.Ytgmnbpdfdagniaa.A
