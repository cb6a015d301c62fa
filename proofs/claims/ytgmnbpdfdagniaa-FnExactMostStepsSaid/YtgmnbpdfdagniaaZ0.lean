/- Texts of this claim, put together by this session's pack2.py: each part is introduced by its own comment. No conditions. -/
import Derived.Test.YtgmnbpdfdagniaaProg
/- A law of searches in breadth: the first of the shortest words that is accepted. No conditions. -/
namespace Go.Proofs.Ytgmnbpdfdagniaa.A
/-- A system: from a state, behind a letter (0 or 1), nothing, or a state and whether it is what is looked for. -/
structure Sys (S : Type) where
  s0 : S
  step : S → Nat → Option (S × Bool)
/-- The state behind a word that has not been accepted before its end; words have numbers, the shortest first. -/
def Sys.run {S : Type} (M : Sys S) (v : Nat) : Option S :=
  if h : v = 0 then some M.s0 else
    have : (v - 1) / 2 < v := by omega
    (M.run ((v - 1) / 2)).bind fun s => (M.step s ((v - 1) % 2)).bind fun p => if p.2 = true then none else some p.1
termination_by v
theorem Sys.run_zero {S : Type} (M : Sys S) : M.run 0 = some M.s0 := by rw [Sys.run]; simp
theorem Sys.run_succ {S : Type} (M : Sys S) (u c : Nat) (hc : c < 2) : M.run (2 * u + 1 + c) = (M.run u).bind fun s => (M.step s c).bind fun p => if p.2 = true then none else some p.1 := by
  rw [Sys.run]
  rw [dif_neg (by omega)]
  dsimp only
  rw [show (2 * u + 1 + c - 1) / 2 = u by omega, show (2 * u + 1 + c - 1) % 2 = c by omega]
/-- Is the word one that is looked for? -/
def Sys.acc {S : Type} (M : Sys S) (v : Nat) : Prop := ∃ u c s t, c < 2 ∧ v = 2 * u + 1 + c ∧ M.run u = some s ∧ M.step s c = some (t, true)
theorem acc_of {S : Type} {M : Sys S} {u c : Nat} (hc : c < 2) (h : M.acc (2 * u + 1 + c)) : ∃ s t, M.run u = some s ∧ M.step s c = some (t, true) := by
  obtain ⟨u', c', s, t, hc', e, h1, h2⟩ := h
  obtain rfl : u' = u := by omega
  obtain rfl : c' = c := by omega
  exact ⟨s, t, h1, h2⟩
/-- How far a search has come: the words below m have been seen; the states that were met, each with the first word that leads to it. -/
structure SInv {S : Type} (M : Sys S) (q : List (Nat × S)) (m : Nat) : Prop where
  sorted : q.Pairwise (fun a b => a.1 < b.1)
  runs : ∀ p ∈ q, M.run p.1 = some p.2
  below : ∀ p ∈ q, p.1 < m
  seen : ∀ v, v < m → ∀ s, M.run v = some s → ∃ n, (n, s) ∈ q ∧ n ≤ v
  none_ : ∀ v, v < m → ¬ M.acc v
theorem SInv.start {S : Type} (M : Sys S) : SInv M [(0, M.s0)] 1 where
  sorted := by simp
  runs := by intro p hp; simp at hp; subst hp; exact M.run_zero
  below := by intro p hp; simp at hp; subst hp; exact Nat.one_pos
  seen := by
    intro v hv s hs
    obtain rfl : v = 0 := by omega
    rw [M.run_zero] at hs
    cases hs
    exact ⟨0, by simp, Nat.le_refl _⟩
  none_ := by
    intro v hv ⟨u, c, s, t, hc, e, _⟩
    omega
theorem SInv.skip {S : Type} {M : Sys S} {q : List (Nat × S)} {n c : Nat} {s : S} (h : SInv M q (2 * n + 1 + c)) (hc : c < 2) (hr : M.run n = some s) (hs : M.step s c = none) : SInv M q (2 * n + 1 + c + 1) where
  sorted := h.sorted
  runs := h.runs
  below := fun p hp => Nat.lt_succ_of_lt (h.below p hp)
  seen := by
    intro v hv t ht
    by_cases hv' : v < 2 * n + 1 + c
    · exact h.seen v hv' t ht
    · obtain rfl : v = 2 * n + 1 + c := by omega
      rw [M.run_succ n c hc, hr] at ht
      simp [hs] at ht
  none_ := by
    intro v hv ha
    by_cases hv' : v < 2 * n + 1 + c
    · exact h.none_ v hv' ha
    · obtain rfl : v = 2 * n + 1 + c := by omega
      obtain ⟨s', t, h1, h2⟩ := acc_of hc ha
      rw [hr] at h1
      cases h1
      rw [hs] at h2
      cases h2
theorem SInv.old {S : Type} {M : Sys S} {q : List (Nat × S)} {n c : Nat} {s t : S} (h : SInv M q (2 * n + 1 + c)) (hc : c < 2) (hr : M.run n = some s) (hs : M.step s c = some (t, false)) (ho : t ∈ q.map Prod.snd) : SInv M q (2 * n + 1 + c + 1) where
  sorted := h.sorted
  runs := h.runs
  below := fun p hp => Nat.lt_succ_of_lt (h.below p hp)
  seen := by
    intro v hv t' ht
    by_cases hv' : v < 2 * n + 1 + c
    · exact h.seen v hv' t' ht
    · obtain rfl : v = 2 * n + 1 + c := by omega
      rw [M.run_succ n c hc, hr] at ht
      simp [hs] at ht
      subst ht
      obtain ⟨⟨k, t2⟩, hk, rfl⟩ := List.mem_map.1 ho
      exact ⟨k, hk, Nat.le_of_lt (h.below _ hk)⟩
  none_ := by
    intro v hv ha
    by_cases hv' : v < 2 * n + 1 + c
    · exact h.none_ v hv' ha
    · obtain rfl : v = 2 * n + 1 + c := by omega
      obtain ⟨s', t', h1, h2⟩ := acc_of hc ha
      rw [hr] at h1
      cases h1
      rw [hs] at h2
      cases h2
theorem SInv.new {S : Type} {M : Sys S} {q : List (Nat × S)} {n c : Nat} {s t : S} (h : SInv M q (2 * n + 1 + c)) (hc : c < 2) (hr : M.run n = some s) (hs : M.step s c = some (t, false)) : SInv M (q ++ [(2 * n + 1 + c, t)]) (2 * n + 1 + c + 1) where
  sorted := by
    rw [List.pairwise_append]
    refine ⟨h.sorted, by simp, ?_⟩
    intro a ha b hb
    simp at hb
    subst hb
    exact h.below a ha
  runs := by
    intro p hp
    rcases List.mem_append.1 hp with hp | hp
    · exact h.runs p hp
    · simp at hp
      subst hp
      rw [M.run_succ n c hc, hr]
      simp [hs]
  below := by
    intro p hp
    rcases List.mem_append.1 hp with hp | hp
    · exact Nat.lt_succ_of_lt (h.below p hp)
    · simp at hp
      subst hp
      exact Nat.lt_succ_self _
  seen := by
    intro v hv t' ht
    by_cases hv' : v < 2 * n + 1 + c
    · obtain ⟨k, hk, hl⟩ := h.seen v hv' t' ht
      exact ⟨k, List.mem_append_left _ hk, hl⟩
    · obtain rfl : v = 2 * n + 1 + c := by omega
      rw [M.run_succ n c hc, hr] at ht
      simp [hs] at ht
      subst ht
      exact ⟨_, List.mem_append_right _ (by simp), Nat.le_refl _⟩
  none_ := by
    intro v hv ha
    by_cases hv' : v < 2 * n + 1 + c
    · exact h.none_ v hv' ha
    · obtain rfl : v = 2 * n + 1 + c := by omega
      obtain ⟨s', t', h1, h2⟩ := acc_of hc ha
      rw [hr] at h1
      cases h1
      rw [hs] at h2
      cases h2
/-- From one met state to the next one: the words between lead to no other states. -/
theorem SInv.jump {S : Type} {M : Sys S} {q : List (Nat × S)} {n m : Nat} (h : SInv M q (2 * n + 3)) (hm : n < m) (hq : ∀ p ∈ q, p.1 ≤ n ∨ m ≤ p.1) (hb : m < 2 * n + 3) : SInv M q (2 * m + 1) where
  sorted := h.sorted
  runs := h.runs
  below := fun p hp => Nat.lt_of_lt_of_le (h.below p hp) (by omega)
  seen := by
    intro v hv s hs
    by_cases hv' : v < 2 * n + 3
    · exact h.seen v hv' s hs
    · obtain ⟨u, c, hc, rfl⟩ : ∃ u c, c < 2 ∧ v = 2 * u + 1 + c := ⟨(v - 1) / 2, (v - 1) % 2, by omega, by omega⟩
      rw [M.run_succ u c hc] at hs
      obtain ⟨s1, h1, h2⟩ := Option.bind_eq_some_iff.1 hs
      obtain ⟨k, hk, hl⟩ := h.seen u (by omega) s1 h1
      have hk2 : k ≤ n := by rcases hq _ hk with h3 | h3 <;> simp at h3 <;> omega
      have hr := h.runs _ hk
      have : M.run (2 * k + 1 + c) = some s := by rw [M.run_succ k c hc, hr]; exact h2
      obtain ⟨k2, hk2', hl2⟩ := h.seen (2 * k + 1 + c) (by omega) s this
      exact ⟨k2, hk2', by omega⟩
  none_ := by
    intro v hv ha
    by_cases hv' : v < 2 * n + 3
    · exact h.none_ v hv' ha
    · obtain ⟨u, c, hc, rfl⟩ : ∃ u c, c < 2 ∧ v = 2 * u + 1 + c := ⟨(v - 1) / 2, (v - 1) % 2, by omega, by omega⟩
      obtain ⟨s1, t, h1, h2⟩ := acc_of hc ha
      obtain ⟨k, hk, hl⟩ := h.seen u (by omega) s1 h1
      have hk2 : k ≤ n := by rcases hq _ hk with h3 | h3 <;> simp at h3 <;> omega
      have hr := h.runs _ hk
      exact h.none_ (2 * k + 1 + c) (by omega) ⟨k, c, s1, t, hc, rfl, hr, h2⟩
/-- Behind the last met state no word is accepted. -/
theorem SInv.done {S : Type} {M : Sys S} {q : List (Nat × S)} {n : Nat} (h : SInv M q (2 * n + 3)) (hq : ∀ p ∈ q, p.1 ≤ n) : ∀ v, ¬ M.acc v := by
  have hs : ∀ v s, M.run v = some s → ∃ k, (k, s) ∈ q ∧ k ≤ v := by
    intro v
    induction v using Nat.strongRecOn with
    | ind v ih =>
      intro s hs
      by_cases hv' : v < 2 * n + 3
      · exact h.seen v hv' s hs
      · obtain ⟨u, c, hc, rfl⟩ : ∃ u c, c < 2 ∧ v = 2 * u + 1 + c := ⟨(v - 1) / 2, (v - 1) % 2, by omega, by omega⟩
        rw [M.run_succ u c hc] at hs
        obtain ⟨s1, h1, h2⟩ := Option.bind_eq_some_iff.1 hs
        obtain ⟨k, hk, hl⟩ := ih u (by omega) s1 h1
        have hk2 : k ≤ n := hq _ hk
        have hr := h.runs _ hk
        have : M.run (2 * k + 1 + c) = some s := by rw [M.run_succ k c hc, hr]; exact h2
        obtain ⟨k2, hk2', hl2⟩ := h.seen (2 * k + 1 + c) (by omega) s this
        exact ⟨k2, hk2', by omega⟩
  intro v ha
  by_cases hv' : v < 2 * n + 3
  · exact h.none_ v hv' ha
  · obtain ⟨u, c, hc, rfl⟩ : ∃ u c, c < 2 ∧ v = 2 * u + 1 + c := ⟨(v - 1) / 2, (v - 1) % 2, by omega, by omega⟩
    obtain ⟨s1, t, h1, h2⟩ := acc_of hc ha
    obtain ⟨k, hk, hl⟩ := hs u s1 h1
    have hk2 : k ≤ n := hq _ hk
    exact h.none_ (2 * k + 1 + c) (by omega) ⟨k, c, s1, t, hc, rfl, h.runs _ hk, h2⟩
theorem SInv.hit {S : Type} {M : Sys S} {q : List (Nat × S)} {n c : Nat} {s t : S} (h : SInv M q (2 * n + 1 + c)) (hc : c < 2) (hr : M.run n = some s) (hs : M.step s c = some (t, true)) : M.acc (2 * n + 1 + c) ∧ ∀ v, v < 2 * n + 1 + c → ¬ M.acc v :=
  ⟨⟨n, c, s, t, hc, rfl, hr, hs⟩, h.none_⟩
/-- Two systems that answer alike accept the same words. -/
theorem run_bisim {S T : Type} {M : Sys S} {N : Sys T} {R : S → T → Prop} (h0 : R M.s0 N.s0)
    (hs : ∀ s t c, c < 2 → R s t → (M.step s c = none ∧ N.step t c = none) ∨ ∃ s' t' b, M.step s c = some (s', b) ∧ N.step t c = some (t', b) ∧ (b = false → R s' t')) (v : Nat) :
    (M.run v = none ∧ N.run v = none) ∨ ∃ s t, M.run v = some s ∧ N.run v = some t ∧ R s t := by
  induction v using Nat.strongRecOn with
  | ind v ih =>
    by_cases hv : v = 0
    · subst hv
      exact .inr ⟨_, _, M.run_zero, N.run_zero, h0⟩
    · obtain ⟨u, c, hc, rfl⟩ : ∃ u c, c < 2 ∧ v = 2 * u + 1 + c := ⟨(v - 1) / 2, (v - 1) % 2, by omega, by omega⟩
      rw [M.run_succ u c hc, N.run_succ u c hc]
      rcases ih u (by omega) with ⟨h1, h2⟩ | ⟨s, t, h1, h2, hR⟩
      · rw [h1, h2]; exact .inl ⟨rfl, rfl⟩
      · rw [h1, h2]
        rcases hs s t c hc hR with ⟨h3, h4⟩ | ⟨s', t', b, h3, h4, h5⟩
        · left; simp [h3, h4]
        · cases b with
          | true => left; simp [h3, h4]
          | false => right; exact ⟨s', t', by simp [h3], by simp [h4], h5 rfl⟩
theorem acc_bisim {S T : Type} {M : Sys S} {N : Sys T} {R : S → T → Prop} (h0 : R M.s0 N.s0)
    (hs : ∀ s t c, c < 2 → R s t → (M.step s c = none ∧ N.step t c = none) ∨ ∃ s' t' b, M.step s c = some (s', b) ∧ N.step t c = some (t', b) ∧ (b = false → R s' t')) (v : Nat) : M.acc v ↔ N.acc v := by
  constructor
  · rintro ⟨u, c, s, s', hc, rfl, h1, h2⟩
    rcases run_bisim h0 hs u with ⟨h3, h4⟩ | ⟨s2, t, h3, h4, hR⟩
    · rw [h1] at h3; cases h3
    · rw [h1] at h3; cases h3
      rcases hs s t c hc hR with ⟨h5, h6⟩ | ⟨s2', t', b, h5, h6, h7⟩
      · rw [h2] at h5; cases h5
      · rw [h2] at h5; cases h5
        exact ⟨u, c, t, t', hc, rfl, h4, h6⟩
  · rintro ⟨u, c, t, t', hc, rfl, h1, h2⟩
    rcases run_bisim h0 hs u with ⟨h3, h4⟩ | ⟨s2, t2, h3, h4, hR⟩
    · rw [h1] at h4; cases h4
    · rw [h1] at h4; cases h4
      rcases hs s2 t c hc hR with ⟨h5, h6⟩ | ⟨s2', t2', b, h5, h6, h7⟩
      · rw [h2] at h6; cases h6
      · rw [h2] at h6; cases h6
        exact ⟨u, c, s2, s2', hc, rfl, h3, h5⟩
/-- What a search tells: the first accepted word, or none. -/
def Sys.tells {S : Type} (M : Sys S) (letters : Nat → ByteArray) (r : ByteArray × Bool) : Prop :=
  (∃ v, M.acc v ∧ (∀ u, u < v → ¬ M.acc u) ∧ r = (letters v, true)) ∨ ((∀ v, ¬ M.acc v) ∧ r = (ByteArray.empty, false))
theorem tells_bisim {S T : Type} {M : Sys S} {N : Sys T} {L : Nat → ByteArray} {r r' : ByteArray × Bool} (ha : ∀ v, M.acc v ↔ N.acc v) (h : M.tells L r) (h' : N.tells L r') : r = r' := by
  rcases h with ⟨v, h1, h2, rfl⟩ | ⟨h1, rfl⟩
  · rcases h' with ⟨u, h3, h4, rfl⟩ | ⟨h3, rfl⟩
    · have : v = u := by
        rcases Nat.lt_trichotomy v u with h5 | h5 | h5
        · exact absurd ((ha v).1 h1) (h4 v h5)
        · exact h5
        · exact absurd ((ha u).2 h3) (h2 u h5)
      rw [this]
    · exact absurd ((ha v).1 h1) (h3 v)
  · rcases h' with ⟨u, h3, h4, rfl⟩ | ⟨h3, rfl⟩
    · exact absurd ((ha u).2 h3) (h1 u)
    · rfl
end Go.Proofs.Ytgmnbpdfdagniaa.A
namespace Go.Proofs.Ytgmnbpdfdagniaa.A
/-- How many steps of the side whose turn it is are still to come before it acts. -/
def kI (sg req ans s0 s1 r0 r1 : Int) : Int := if req = ans then (if sg = 0 then 1 else if sg = 1 then (if s0 = ans then 1 else 2) else if s1 = ans then 1 else if s0 = ans then 2 else 3) else (if sg = 0 then 1 else if sg = 1 then (if r0 = ans then 2 else 1) else if r1 = ans then (if r0 = ans then 3 else 2) else 1)
def pI (ph req ans : Int) : Int := if ph = 2 then (if req = ans then 1 else 0) else if ans = 1 then (if req = 1 then 3 else 2) else if req = 1 then 0 else 1
def rI (ratio req ans last run : Int) : Int := if req = ans then (if last = 114 then ratio - run else ratio) else (if last = 115 then ratio - run else ratio)
def seenI (sg a b set : Int) : Int := if sg = 0 then set else if sg = 1 then a else b
structure JI (ph sg req ans sent s0 s1 r0 r1 taken : Int) : Prop where
  a1 : req = ans → (sg = 0 ∨ r0 = ans) ∧ (sg = 0 ∨ sg = 1 ∨ r1 = ans) ∧ (sg = 2 → s1 = ans → s0 = ans)
  a2 : ¬ req = ans → (sg = 0 ∨ s0 = ans) ∧ (sg = 0 ∨ sg = 1 ∨ s1 = ans) ∧ (sg = 2 → ¬ r1 = ans → ¬ r0 = ans)
  a3 : sent = taken + (if req = ans then 0 else if ph = 2 then 1 else if req = 1 then 1 else 0)
set_option linter.unusedVariables false
set_option maxHeartbeats 6400000 in
theorem phi_send (ph sg wd ratio req ans sent s0 s1 r0 r1 taken last run req' sent' run' : Int) (hph : ph = 2 ∨ ph = 4) (hsg : sg = 0 ∨ sg = 1 ∨ sg = 2) (h0 : req = 0 ∨ req = 1) (h1 : ans = 0 ∨ ans = 1) (h2 : s0 = 0 ∨ s0 = 1) (h3 : s1 = 0 ∨ s1 = 1) (h4 : r0 = 0 ∨ r0 = 1) (h5 : r1 = 0 ∨ r1 = 1)
    (hr : 1 ≤ ratio ∧ ratio ≤ 4) (hrun : 0 ≤ run ∧ run ≤ ratio) (hl : last = 0 ∨ last = 114 ∨ last = 115) (ht : taken < wd) (hJ : JI ph sg req ans sent s0 s1 r0 r1 taken) (hrun' : run' = (if last = 115 then run + 1 else 1)) (hk : run' ≤ ratio)
    (sv : Int) (hsv : sv = seenI sg s0 s1 ans)
    (hact : (ph = 2 ∧ sv = req ∧ sent < wd ∧ req' = 1 - req ∧ sent' = sent + 1) ∨ (ph = 4 ∧ req = 0 ∧ sv = 0 ∧ sent < wd ∧ req' = 1 ∧ sent' = sent + 1) ∨ (ph = 4 ∧ req = 1 ∧ sv = 1 ∧ req' = 0 ∧ sent' = sent) ∨
      (¬ (ph = 2 ∧ sv = req ∧ sent < wd) ∧ ¬ (ph = 4 ∧ req = 0 ∧ sv = 0 ∧ sent < wd) ∧ ¬ (ph = 4 ∧ req = 1 ∧ sv = 1) ∧ req' = req ∧ sent' = sent)) :
    JI ph sg req' ans sent' ans s0 r0 r1 taken ∧ ((wd - taken) * 4 + pI ph req' ans) * 20 + kI sg req' ans ans s0 r0 r1 * (ratio + 1) + rI ratio req' ans 115 run' < ((wd - taken) * 4 + pI ph req ans) * 20 + kI sg req ans s0 s1 r0 r1 * (ratio + 1) + rI ratio req ans last run := by
  obtain ⟨a1, a2, a3⟩ := hJ
  unfold seenI at hsv
  have hrl : (last = 115 ∧ run' = run + 1) ∨ (¬ last = 115 ∧ run' = 1) := by
    by_cases h : last = 115
    · rw [if_pos h] at hrun'; exact .inl ⟨h, hrun'⟩
    · rw [if_neg h] at hrun'; exact .inr ⟨h, hrun'⟩
  clear hrun'
  rcases hph with rfl | rfl <;> rcases hsg with rfl | rfl | rfl <;> rcases h0 with rfl | rfl <;> rcases h1 with rfl | rfl <;> rcases h2 with rfl | rfl <;> rcases h3 with rfl | rfl <;> rcases h4 with rfl | rfl <;> rcases h5 with rfl | rfl <;> simp at a1 a2 a3 hsv <;> (try (exfalso; omega)) <;> (
    subst hsv
    rcases hact with ⟨b1, b2, b3, rfl, rfl⟩ | ⟨b1, b2, b3, b4, rfl, rfl⟩ | ⟨b1, b2, b3, rfl, rfl⟩ | ⟨b1, b2, b3, rfl, rfl⟩ <;> first | (exfalso; omega) | (
      refine ⟨⟨by simp, by simp, by simp; omega⟩, ?_⟩
      simp [kI, pI, rI]
      (try split) <;> omega))
set_option maxHeartbeats 6400000 in
theorem phi_take (ph sg wd ratio req ans sent s0 s1 r0 r1 taken last run ans' taken' run' : Int) (hph : ph = 2 ∨ ph = 4) (hsg : sg = 0 ∨ sg = 1 ∨ sg = 2) (h0 : req = 0 ∨ req = 1) (h1 : ans = 0 ∨ ans = 1) (h2 : s0 = 0 ∨ s0 = 1) (h3 : s1 = 0 ∨ s1 = 1) (h4 : r0 = 0 ∨ r0 = 1) (h5 : r1 = 0 ∨ r1 = 1)
    (hr : 1 ≤ ratio ∧ ratio ≤ 4) (hrun : 0 ≤ run ∧ run ≤ ratio) (ht : taken < wd) (hJ : JI ph sg req ans sent s0 s1 r0 r1 taken) (hrun' : run' = (if last = 114 then run + 1 else 1)) (hk : run' ≤ ratio)
    (sv : Int) (hsv : sv = seenI sg r0 r1 req)
    (hact : (¬ sv = ans ∧ (ph = 2 ∨ sv = 1) ∧ ans' = sv ∧ taken' = taken + 1) ∨ (¬ sv = ans ∧ ¬ (ph = 2 ∨ sv = 1) ∧ ans' = sv ∧ taken' = taken) ∨ (sv = ans ∧ ans' = ans ∧ taken' = taken)) :
    JI ph sg req ans' sent s0 s1 req r0 taken' ∧ ((wd - taken') * 4 + pI ph req ans') * 20 + kI sg req ans' s0 s1 req r0 * (ratio + 1) + rI ratio req ans' 114 run' < ((wd - taken) * 4 + pI ph req ans) * 20 + kI sg req ans s0 s1 r0 r1 * (ratio + 1) + rI ratio req ans last run := by
  obtain ⟨a1, a2, a3⟩ := hJ
  unfold seenI at hsv
  have hrl : (last = 114 ∧ run' = run + 1) ∨ (¬ last = 114 ∧ run' = 1) := by
    by_cases h : last = 114
    · rw [if_pos h] at hrun'; exact .inl ⟨h, hrun'⟩
    · rw [if_neg h] at hrun'; exact .inr ⟨h, hrun'⟩
  clear hrun'
  rcases hph with rfl | rfl <;> rcases hsg with rfl | rfl | rfl <;> rcases h0 with rfl | rfl <;> rcases h1 with rfl | rfl <;> rcases h2 with rfl | rfl <;> rcases h3 with rfl | rfl <;> rcases h4 with rfl | rfl <;> rcases h5 with rfl | rfl <;> simp at a1 a2 a3 hsv <;> (try (exfalso; omega)) <;> (
    subst hsv
    rcases hact with ⟨b1, b2, rfl, rfl⟩ | ⟨b1, b2, rfl, rfl⟩ | ⟨b1, rfl, rfl⟩ <;> first | (exfalso; omega) | (
      refine ⟨⟨by simp, by simp, by simp; omega⟩, ?_⟩
      simp [kI, pI, rI]
      (try split) <;> omega))
end Go.Proofs.Ytgmnbpdfdagniaa.A
