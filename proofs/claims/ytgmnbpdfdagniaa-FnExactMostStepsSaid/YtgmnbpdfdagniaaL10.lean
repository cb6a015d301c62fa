/- The link: the reference's search for the most steps. No conditions. -/
import Derived.Test.YtgmnbpdfdagniaaZ41
import Derived.Test.YtgmnbpdfdagniaaN2
namespace Go.Proofs.Ytgmnbpdfdagniaa.A
open Go.RowKit Go.Proofs.YtgmnbpdfdagniaaW.PrintWords Go.Proofs.YtgmnbpdfdagniaaW.PrintLast Go.Proofs.YtgmnbpdfdagniaaW.PrintMore
set_option linter.unusedVariables false
set_option linter.unusedSimpArgs false
def KStep (l : Lnk) (ratio : Int) (y z : S57) (c : Nat) : Prop := nextF l ratio ((c : Nat) : Int) y = some (z, true) ∧ z.f8 < l.wd
def SK (l : Lnk) (ratio : Int) (y : S57) : Prop := ∃ x, SafeN l ratio x y ∧ x.taken < l.wd
def KPath (l : Lnk) (ratio : Int) : Nat → S57 → Prop
  | 0, z => z = x0K
  | n + 1, z => ∃ y c, c < 2 ∧ KPath l ratio n y ∧ KStep l ratio y z c
/-- A step of a state: what is known of it. -/
theorem k_next {l : Lnk} {ratio : Int} (hl : LOk l) (hr : 1 ≤ ratio ∧ ratio ≤ 4) (hs : ∀ v, ¬ (nSys l ratio holdB).acc v) {y : S57} (h : SK l ratio y) (c : Nat) (hc : c < 2) :
    ∃ z b, nextF l ratio ((c : Nat) : Int) y = some (z, b) ∧ (b = true → RG z) ∧ (b = true → z.f8 < l.wd → SK l ratio z) := by
  obtain ⟨x, hx, ht⟩ := h
  obtain ⟨x', keeps, ⟨rfl, ⟨right, e1⟩, y', e2⟩ | ⟨rfl, e1, y', e2, e3, e5, e6, e7⟩⟩ := safe_step hl hr hs hx c hc
  · exact ⟨y', false, e2, (fun e => by cases e), fun e => by cases e⟩
  · exact ⟨y', true, e2, fun _ => e6, fun _ hw => ⟨x', e3, by omega⟩⟩
structure MJ (l : Lnk) (ratio : Int) (now : List S57) (i c : Nat) (s : MsS) : Prop where
  mem : ∀ z, z ∈ s.nx ↔ (∃ j y c', j < i ∧ c' < 2 ∧ now[j]? = some y ∧ KStep l ratio y z c') ∨ (∃ y c', c' < c ∧ now[i]? = some y ∧ KStep l ratio y z c')
  tb : Good s.tb s.c (fun k => ∃ z, z ∈ s.nx ∧ k = keyK z)
  cc : s.c ≤ s.nx.length
  tl : (s.tb.length : Int) ≤ 4 * s.nx.length + 64
  sk : ∀ z ∈ s.nx, RG z ∧ SK l ratio z
  nd : s.nx.Nodup
theorem MJ.len {l : Lnk} {ratio : Int} {now : List S57} {i c : Nat} {s : MsS} (h : MJ l ratio now i c s) : s.nx.length ≤ 17179869184 :=
  few s.nx keyK 17179869184 h.nd (fun y hy => keyK_range _ (h.sk y hy).1) (fun y hy z hz e => keyK_inj _ _ (h.sk y hy).1 (h.sk z hz).1 e)
theorem MJ.start (l : Lnk) (ratio : Int) (now : List S57) : MJ l ratio now 0 0 ⟨[], [], 0⟩ where
  mem := by
    intro z
    constructor
    · intro hz; cases hz
    · rintro (⟨j, y, c, h3, _⟩ | ⟨y, c, h3, _⟩) <;> omega
  tb := (Good.empty 0).congr (fun k => ⟨fun z => z.elim, fun ⟨z, hz, _⟩ => by cases hz⟩)
  cc := by simp
  tl := by simp
  sk := by intro z hz; cases hz
  nd := by simp
theorem ms_step {l : Lnk} {ratio : Int} (hl : LOk l) (hr : 1 ≤ ratio ∧ ratio ≤ 4) (hs : ∀ v, ¬ (nSys l ratio holdB).acc v) (K : Nat) (hK : 1099511627776 ≤ K) {now : List S57} {i c : Nat} {y : S57} {s : MsS} (h : MJ l ratio now i c s) (hi : now[i]? = some y) (hy : SK l ratio y) (hc : c < 2) (f : Nat) (next : MsS → Option (Int × Bool)) :
    ∃ s', msSide K l ratio now (i : Int) next (f + 1) (c : Int) s = msSide K l ratio now (i : Int) next f ((c + 1 : Nat) : Int) s' ∧ MJ l ratio now i (c + 1) s' := by
  have hlen := h.len
  have hil : i < now.length := (List.getElem?_eq_some_iff.1 hi).1
  have hrd : rd_T57 now (i : Int) = y := by
    unfold rd_T57
    rw [Int.toNat_natCast, List.getD_eq_getElem?_getD, hi]
    rfl
  have hw : wrap64 ((c : Int) + 1) = ((c + 1 : Nat) : Int) := by rw [small64 (by omega) (by omega)]; omega
  obtain ⟨z, b, hz, hg, hsk⟩ := k_next hl hr hs hy c hc
  simp only [msSide]
  rw [if_pos (show (c : Int) < 2 by omega), if_pos (show (i : Int) < now.length by omega), hrd, hz, Option.bind_some, hw]
  dsimp only
  by_cases hst : b = true ∧ z.f8 < l.wd
  · obtain ⟨rfl, hzw⟩ := hst
    have hks : KStep l ratio y z c := ⟨hz, hzw⟩
    have hgz := hg rfl
    have hkr := keyK_range z hgz
    have hM : ∀ k, (∃ z, z ∈ s.nx ∧ k = keyK z) → k < 4611686018427387903 := by
      rintro k ⟨p, hp, rfl⟩
      have := keyK_range _ (h.sk p hp).1
      omega
    have htl := h.tl
    have hcc := h.cc
    obtain ⟨tb', c', b', e1, e2, e3, e4, e5, e6⟩ := putF_good h.tb hkr.1 (by omega) hM (by omega) K (by omega)
    rw [if_pos ⟨rfl, hzw⟩, e1, Option.bind_some]
    dsimp only
    cases b' with
    | false =>
      have hin : z ∈ s.nx := by
        by_cases hm : ∃ p, p ∈ s.nx ∧ keyK z = keyK p
        · obtain ⟨p, hp, e⟩ := hm
          rw [keyK_inj _ _ hgz (h.sk p hp).1 e]
          exact hp
        · have := e2.2 hm; cases this
      rw [if_neg (by simp)]
      refine ⟨_, rfl, ?_, e6.congr (fun k => ⟨fun q => q.elim (fun e => ⟨z, hin, e⟩) id, .inr⟩), by have := e5 rfl; dsimp only; omega, by dsimp only; rcases e3 with e3 | e3 <;> omega, h.sk, h.nd⟩
      intro q
      dsimp only
      rw [h.mem q]
      constructor
      · rintro (a | ⟨y1, c1, h1, h2, h3⟩)
        · exact .inl a
        · exact .inr ⟨y1, c1, by omega, h2, h3⟩
      · rintro (a | ⟨y1, c1, h1, h2, h3⟩)
        · exact .inl a
        · rcases (show c1 < c ∨ c1 = c by omega) with h4 | h4
          · exact .inr ⟨y1, c1, h4, h2, h3⟩
          · subst h4
            rw [hi] at h2
            cases h2
            have : q = z := by have := h3.1; rw [hz] at this; cases this; rfl
            rw [this]
            exact (h.mem z).1 hin
    | true =>
      have hnew : z ∉ s.nx := fun hin => (e2.1 rfl) ⟨z, hin, rfl⟩
      rw [if_pos rfl, if_pos (show s.nx.length < 1099511627776 by omega)]
      refine ⟨_, rfl, ?_, e6.congr (fun k => ?_), ?_, ?_, ?_, ?_⟩
      · intro q
        dsimp only
        rw [List.mem_append, List.mem_singleton, h.mem q]
        constructor
        · rintro ((a | ⟨y1, c1, h1, h2, h3⟩) | rfl)
          · exact .inl a
          · exact .inr ⟨y1, c1, by omega, h2, h3⟩
          · exact .inr ⟨y, c, by omega, hi, hks⟩
        · rintro (a | ⟨y1, c1, h1, h2, h3⟩)
          · exact .inl (.inl a)
          · rcases (show c1 < c ∨ c1 = c by omega) with h4 | h4
            · exact .inl (.inr ⟨y1, c1, h4, h2, h3⟩)
            · subst h4
              rw [hi] at h2
              cases h2
              have : q = z := by have := h3.1; rw [hz] at this; cases this; rfl
              exact .inr this
      · dsimp only
        constructor
        · rintro (rfl | ⟨p, hp, e⟩)
          · exact ⟨z, List.mem_append_right _ (List.mem_singleton.2 rfl), rfl⟩
          · exact ⟨p, List.mem_append_left _ hp, e⟩
        · rintro ⟨p, hp, e⟩
          rcases List.mem_append.1 hp with hp | hp
          · exact .inr ⟨p, hp, e⟩
          · rw [List.mem_singleton.1 hp] at e; exact .inl e
      · dsimp only; rw [List.length_append, List.length_singleton]; omega
      · dsimp only; rw [List.length_append, List.length_singleton]; rcases e3 with e3 | e3 <;> omega
      · intro p hp
        rcases List.mem_append.1 hp with hp | hp
        · exact h.sk p hp
        · rw [List.mem_singleton.1 hp]; exact ⟨hgz, hsk rfl hzw⟩
      · dsimp only
        rw [List.nodup_append]
        refine ⟨h.nd, by simp, ?_⟩
        intro a ha b hb e
        rw [List.mem_singleton] at hb
        subst e
        rw [hb] at ha
        exact hnew ha
  · rw [if_neg hst]
    refine ⟨s, rfl, ?_, h.tb, h.cc, h.tl, h.sk, h.nd⟩
    intro q
    rw [h.mem q]
    constructor
    · rintro (a | ⟨y1, c1, h1, h2, h3⟩)
      · exact .inl a
      · exact .inr ⟨y1, c1, by omega, h2, h3⟩
    · rintro (a | ⟨y1, c1, h1, h2, h3⟩)
      · exact .inl a
      · rcases (show c1 < c ∨ c1 = c by omega) with h4 | h4
        · exact .inr ⟨y1, c1, h4, h2, h3⟩
        · subst h4
          rw [hi] at h2
          cases h2
          have h5 := h3.1
          rw [hz] at h5
          cases h5
          exact absurd ⟨rfl, h3.2⟩ hst
theorem ms_row {l : Lnk} {ratio : Int} (hl : LOk l) (hr : 1 ≤ ratio ∧ ratio ≤ 4) (hs : ∀ v, ¬ (nSys l ratio holdB).acc v) (K : Nat) (hK : 1099511627776 ≤ K) {now : List S57} (hn : ∀ y ∈ now, SK l ratio y) (hln : now.length ≤ 17179869184) (next : MsS → Option (Int × Bool)) :
    ∀ (f i : Nat) (s : MsS), now.length + 1 ≤ f + i → i ≤ now.length → MJ l ratio now i 0 s → ∃ t, msRow K l ratio now next f (i : Int) s = next t ∧ MJ l ratio now now.length 0 t
  | 0, i, s, hf, hil, h => by omega
  | f + 1, i, s, hf, hil, h => by
    simp only [msRow]
    by_cases hi : i < now.length
    · obtain ⟨y, hy⟩ : ∃ y, now[i]? = some y := ⟨_, List.getElem?_eq_getElem hi⟩
      have hw : wrap64 ((i : Int) + 1) = ((i + 1 : Nat) : Int) := by unfold wrap64; omega
      rw [if_pos (show (i : Int) < now.length by omega), if_neg (show ¬ (1099511627776 : Int) ≤ (i : Int) by omega), hw]
      obtain ⟨K3, rfl⟩ : ∃ k, K = k + 1 + 1 + 1 := ⟨K - 3, by omega⟩
      have hz : (0 : Int) = ((0 : Nat) : Int) := rfl
      rw [hz]
      obtain ⟨s1, e1, h1⟩ := ms_step hl hr hs _ hK (c := 0) h hy (hn y (List.mem_of_getElem? hy)) (by omega) (K3 + 1 + 1) (fun t => msRow (K3 + 1 + 1 + 1) l ratio now next f ((i + 1 : Nat) : Int) t)
      rw [e1]
      obtain ⟨s2, e2, h2⟩ := ms_step hl hr hs _ hK (c := 1) h1 hy (hn y (List.mem_of_getElem? hy)) (by omega) (K3 + 1) (fun t => msRow (K3 + 1 + 1 + 1) l ratio now next f ((i + 1 : Nat) : Int) t)
      rw [e2]
      simp only [msSide]
      rw [if_neg (by decide)]
      refine ms_row hl hr hs _ hK hn hln next f (i + 1) s2 (by omega) (by omega) ⟨?_, h2.tb, h2.cc, h2.tl, h2.sk, h2.nd⟩
      intro q
      rw [h2.mem q]
      constructor
      · rintro (⟨j, y1, c1, h3, h4, h5, h6⟩ | ⟨y1, c1, h3, h4, h5⟩)
        · exact .inl ⟨j, y1, c1, by omega, h4, h5, h6⟩
        · exact .inl ⟨i, y1, c1, by omega, by omega, h4, h5⟩
      · rintro (⟨j, y1, c1, h3, h4, h5, h6⟩ | ⟨y1, c1, h3, h4, h5⟩)
        · rcases (show j < i ∨ j = i by omega) with h7 | h7
          · exact .inl ⟨j, y1, c1, h7, h4, h5, h6⟩
          · subst h7; exact .inr ⟨y1, c1, by omega, h5, h6⟩
        · omega
    · obtain rfl : i = now.length := by omega
      rw [if_neg (by omega)]
      exact ⟨s, rfl, h⟩
/-- A layer: the states behind so many steps. -/
structure Lay (l : Lnk) (ratio : Int) (n : Nat) (now : List S57) : Prop where
  mem : ∀ z, z ∈ now ↔ KPath l ratio n z
  sk : ∀ z ∈ now, SK l ratio z
  len : now.length ≤ 17179869184
theorem ms_n {l : Lnk} {ratio : Int} (hl : LOk l) (hr : 1 ≤ ratio ∧ ratio ≤ 4) (hs : ∀ v, ¬ (nSys l ratio holdB).acc v) (K : Nat) (hK : 1099511627776 ≤ K) {L : Nat} (hL : L ≤ 400) (h1 : ∀ n, n ≤ L → ∃ z, KPath l ratio n z) (h2 : ∀ z, ¬ KPath l ratio (L + 1) z) :
    ∀ (k n : Nat) (now : List S57), L + 2 ≤ k + n → n ≤ L → Lay l ratio n now → msN K l ratio k ((n + 1 : Nat) : Int) now = some (((L + 1 : Nat) : Int), true)
  | 0, n, now, hk, hn, h => by omega
  | k + 1, n, now, hk, hn, h => by
    simp only [msN]
    rw [if_pos (show ((n + 1 : Nat) : Int) ≤ 600 by omega)]
    obtain ⟨t, e, ht⟩ := ms_row hl hr hs K hK h.sk h.len (fun t => if t.nx.length = 0 then some (((n + 1 : Nat) : Int), true) else msN K l ratio k (wrap64 (((n + 1 : Nat) : Int) + 1)) t.nx) K 0 ⟨[], [], 0⟩ (by have := h.len; omega) (Nat.zero_le _)
      (MJ.start l ratio now)
    rw [show ((0 : Nat) : Int) = 0 from rfl] at e
    rw [e]
    have hmem : ∀ z, z ∈ t.nx ↔ KPath l ratio (n + 1) z := by
      intro z
      rw [ht.mem z]
      constructor
      · rintro (⟨j, y, c, h3, h4, h5, h6⟩ | ⟨y, c, h3, _⟩)
        · exact ⟨y, c, h4, (h.mem y).1 (List.mem_of_getElem? h5), h6⟩
        · omega
      · rintro ⟨y, c, h4, h5, h6⟩
        obtain ⟨j, hj, e⟩ := List.getElem_of_mem ((h.mem y).2 h5)
        exact .inl ⟨j, y, c, hj, h4, by rw [List.getElem?_eq_getElem hj, e], h6⟩
    by_cases hnL : n = L
    · subst hnL
      have : t.nx.length = 0 := by
        rw [List.length_eq_zero_iff]
        cases hx : t.nx with
        | nil => rfl
        | cons z zs => exact absurd ((hmem z).1 (by rw [hx]; exact List.mem_cons_self ..)) (h2 z)
      rw [if_pos this]
    · obtain ⟨z, hz⟩ := h1 (n + 1) (by omega)
      have hz := (hmem z).2 hz
      have : ¬ t.nx.length = 0 := by
        intro e
        rw [List.length_eq_zero_iff] at e
        rw [e] at hz
        cases hz
      rw [if_neg this, show wrap64 (((n + 1 : Nat) : Int) + 1) = ((n + 1 + 1 : Nat) : Int) from (small64 (by omega) (by omega)).trans (by omega)]
      exact ms_n hl hr hs K hK hL h1 h2 k (n + 1) t.nx (by omega) (by omega) ⟨hmem, fun z hz => (ht.sk z hz).2, ht.len⟩
theorem chain_path {l : Lnk} {ratio : Int} : ∀ {n : Nat} {x : LN}, Chain l ratio n x → ∃ z, Path l ratio n x z
  | 0, x, _ => ⟨x, rfl⟩
  | n + 1, x, ⟨z, hz, h⟩ => by
    obtain ⟨u, hu⟩ := chain_path h
    exact ⟨u, z, hz, hu⟩
theorem path_k {l : Lnk} {ratio : Int} (hl : LOk l) (hr : 1 ≤ ratio ∧ ratio ≤ 4) (hs : ∀ v, ¬ (nSys l ratio holdB).acc v) : ∀ {n m : Nat} {a x : LN} {y : S57}, Path l ratio n a x → SafeN l ratio a y → a.taken < l.wd → KPath l ratio m y → ∃ z, KPath l ratio (m + n) z
  | 0, m, a, x, y, h, ha, hw, hy => ⟨y, hy⟩
  | n + 1, m, a, x, y, ⟨b, ⟨c, right, hc, e, hb⟩, h⟩, ha, hw, hy => by
    obtain ⟨x', keeps, ⟨rfl, ⟨right', e1⟩, y', e2⟩ | ⟨rfl, e1, y', e2, e3, e5, e6, e7⟩⟩ := safe_step hl hr hs ha c hc
    · rw [e] at e1; cases e1
    · rw [e] at e1
      cases e1
      have hn5 := e3.1.r0.n5
      rw [show m + (n + 1) = m + 1 + n by omega]
      exact path_k hl hr hs h e3 (by omega) ⟨y, c, hc, hy, e2, by omega⟩
theorem k_path {l : Lnk} {ratio : Int} (hl : LOk l) (hr : 1 ≤ ratio ∧ ratio ≤ 4) (hs : ∀ v, ¬ (nSys l ratio holdB).acc v) : ∀ {n : Nat} {z : S57}, KPath l ratio n z → ∃ x, Path l ratio n zN x ∧ SafeN l ratio x z
  | 0, z, h => by cases h; exact ⟨zN, rfl, SafeN.start hl hr.1⟩
  | n + 1, z, ⟨y, c, hc, hy, hk⟩ => by
    obtain ⟨x, hx, hsx⟩ := k_path hl hr hs hy
    obtain ⟨x', keeps, ⟨rfl, ⟨right', e1⟩, y', e2⟩ | ⟨rfl, e1, y', e2, e3, e5, e6, e7⟩⟩ := safe_step hl hr hs hsx c hc
    · have := hk.1; rw [e2] at this; cases this
    · have h1 := hk.1
      rw [e2] at h1
      cases h1
      have h2 := hk.2
      exact ⟨x', path_snoc hx ⟨c, true, hc, e1, by omega⟩, e3⟩
/-- Both searches tell the same number. -/
theorem most_both {l : Lnk} {ratio : Int} (hl : LOk l) (hr : 1 ≤ ratio ∧ ratio ≤ 4) (hs : ∀ v, ¬ (nSys l ratio holdB).acc v) (hw : ¬ l.wd = 0) (K : Nat) (hK : 1099511627776 ≤ K) : ∃ v M', lgF l ratio K zN [] = some (v, true, M') ∧ 0 ≤ v ∧ v ≤ 400 ∧ msN K l ratio K 1 [x0K] = some (v + 1, true) := by
  obtain ⟨v, M', e, ⟨h0, h1, h2⟩, h3⟩ := lg_start hl hr hs hw K (by omega)
  refine ⟨v, M', e, h0, h3, ?_⟩
  have hz : x0K.f8 = 0 := rfl
  have hwd := hl.wd
  have hlay : Lay l ratio 0 [x0K] := ⟨fun z => by rw [List.mem_singleton]; exact Iff.rfl, fun z hz => by rw [List.mem_singleton.1 hz]; exact ⟨zN, SafeN.start hl hr.1, by show (0 : Int) < l.wd; omega⟩, by simp⟩
  have := ms_n hl hr hs K hK (L := v.toNat) (by omega) (fun n hn => by
    obtain ⟨x, hx⟩ := chain_path (chain_less hn h1)
    obtain ⟨z, hz⟩ := path_k hl hr hs (m := 0) hx (SafeN.start hl hr.1) (by show (0 : Int) < l.wd; omega) rfl
    exact ⟨z, by rwa [Nat.zero_add] at hz⟩) (fun z hz => by
    obtain ⟨x, hx, _⟩ := k_path hl hr hs hz
    exact h2 (path_chain (m := 0) hx trivial)) K 0 [x0K] (by omega) (Nat.zero_le _) hlay
  rw [show ((0 + 1 : Nat) : Int) = 1 from rfl, show ((v.toNat + 1 : Nat) : Int) = v + 1 by omega] at this
  exact this
end Go.Proofs.Ytgmnbpdfdagniaa.A
