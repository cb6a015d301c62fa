/- The pure side of FnClockEdges: edges are where they are told, the next edge is the first one from a moment on, and edges are counted as their moments show. No conditions. -/
import Derived.Test.YtfoedfigjcmjbaaA5
import Derived.Test.YtfoedfigjcmjbaaLib
namespace Go.Proofs.Ytfoedfigjcmjbaa.Pure
set_option linter.unusedVariables false
set_option linter.unusedSimpArgs false
open Go.RowKit Go.Proofs.Ytfoedfigjcmjbaa.A Go.Proofs.Ytfoedfigjcmjbaa.L Go.Proofs.YtfoedfigjcmjbaaW.PrintWords Go.Proofs.YtfoedfigjcmjbaaW.PrintLast Go.Proofs.YtfoedfigjcmjbaaW.PrintMore
namespace ClockEdges_
theorem bt_nums (xs : List Int) (i : Int) (h0 : 0 ≤ i) (h1 : i < xs.length) (hx : ∀ x ∈ xs, 0 ≤ x ∧ x ≤ 255) : bt (strOfNums xs) i = rd xs i := by
  have hs : (strOfNums xs).size = xs.length := by simp [strOfNums, ByteArray.size]
  have hi : i.toNat < xs.length := by omega
  unfold bt rd
  rw [dif_pos (by omega)]
  have hg : (strOfNums xs)[i.toNat]'(by omega) = UInt8.ofNat (xs[i.toNat]'hi).toNat := by
    simp [strOfNums, ByteArray.getElem_eq_getElem_data]
  rw [hg, List.getD_eq_getElem?_getD, List.getElem?_eq_getElem hi]
  have hb := hx _ (List.getElem_mem hi)
  simp only [Option.getD_some, UInt8.toNat_ofNat']
  omega
theorem size_nums (xs : List Int) : (strOfNums xs).size = xs.length := by simp [strOfNums, ByteArray.size]
theorem bytes_bd (n : Nat) (lev : Nat → Bool) : ∀ x ∈ impl_waveOf.bytes n lev, 0 ≤ x ∧ x ≤ 255 := by
  intro x hx
  unfold impl_waveOf.bytes at hx
  obtain ⟨i, _, rfl⟩ := List.mem_map.1 hx
  split <;> omega
theorem bt_text (n : Nat) (lev : Nat → Bool) (i : Nat) (hi : i < n) : bt (impl_waveOf.text n lev) (i : Int) = if lev i = true then 49 else 48 := by
  unfold impl_waveOf.text
  rw [bt_nums _ _ (by omega) (by rw [impl_waveOf.bytes_length]; omega) (bytes_bd n lev)]
  unfold rd impl_waveOf.bytes
  simp [List.getD_eq_getElem?_getD, hi]
theorem eb_one (p o k : Int) (hp : 1 ≤ p) (hk : 0 ≤ k) : eb p o (o + k * p) = k := by
  have h0 := eb_nonneg p o (o + k * p) hp
  have h1 := eb_lt p o (o + k * p) hp
  rcases Int.lt_or_le k (eb p o (o + k * p)) with h | h
  · have := (h1 k hk).1 h; omega
  · rcases Int.lt_or_le (eb p o (o + k * p)) k with h2 | h2
    · have : ¬ (o + eb p o (o + k * p) * p < o + k * p) := fun hc => by have := (h1 _ h0).2 hc; omega
      have := Int.mul_lt_mul_of_pos_right h2 (by omega : 0 < p)
      omega
    · omega
theorem eb_zero (p o : Int) (ho : 0 ≤ o) : eb p o 0 = 0 := by unfold eb; rw [if_pos ho]
/-- One moment more: one edge more, if there is one. -/
theorem eb_edge (p o m : Int) (hp : 1 ≤ p) (hm : o ≤ m) (hd : (m - o) % p = 0) : eb p o (m + 1) = eb p o m + 1 ∧ o + eb p o m * p = m := by
  have e : m = o + ((m - o) / p) * p := by
    have := Int.mul_ediv_add_emod (m - o) p
    rw [Int.mul_comm] at this; omega
  have hk : 0 ≤ (m - o) / p := Int.ediv_nonneg (by omega) (by omega)
  generalize (m - o) / p = k at *
  subst e
  have e1 := eb_one p o k hp hk
  refine ⟨?_, by rw [e1]⟩
  rw [e1]
  have h0 := eb_nonneg p o (o + k * p + 1) hp
  have h1 := eb_lt p o (o + k * p + 1) hp
  have a := (h1 k hk).2 (by omega)
  rcases Int.lt_or_le (k + 1) (eb p o (o + k * p + 1)) with h | h
  · have := (h1 (k + 1) (by omega)).1 h
    rw [Int.add_mul] at this; omega
  · omega
theorem eb_none (p o m : Int) (hp : 1 ≤ p) (hn : ¬ (o ≤ m ∧ (m - o) % p = 0)) : eb p o (m + 1) = eb p o m := by
  have h0 := eb_nonneg p o m hp
  have mono := eb_mono p o m (m + 1) hp (by omega)
  rcases Int.lt_or_le (eb p o m) (eb p o (m + 1)) with h | h
  · exfalso
    have a := (eb_lt p o (m + 1) hp _ h0).1 h
    have b : ¬ (o + eb p o m * p < m) := fun hc => by have := (eb_lt p o m hp _ h0).2 hc; omega
    have q := Int.mul_nonneg h0 (by omega : 0 ≤ p)
    apply hn
    have e : m - o = eb p o m * p := by omega
    refine ⟨by omega, ?_⟩
    rw [e]; exact Int.mul_emod_left _ _
  · omega
theorem wave_loop (p o high : Int) (hp : 1 ≤ p) (h20 : p ≤ 20) (ho : 0 ≤ o) (h29 : o ≤ 29) : ∀ (d k i : Nat), i + d = 120 → d < k →
    laws_FnClockEdges.l1 k high (impl_waveOf.text 120 (impl_WaveOf.lev p o high)) (i : Int) p o = some true := by
  intro d
  induction d with
  | zero =>
    intro k i hi hk
    obtain ⟨k, rfl⟩ : ∃ m, k = m + 1 := ⟨k - 1, by omega⟩
    simp only [laws_FnClockEdges.l1]; rw [if_neg (by omega)]
  | succ d ih =>
    intro k i hi hk
    obtain ⟨k, rfl⟩ : ∃ m, k = m + 1 := ⟨k - 1, by omega⟩
    have hs : ((impl_waveOf.text 120 (impl_WaveOf.lev p o high)).size : Int) = 120 := by
      unfold impl_waveOf.text; rw [size_nums, impl_waveOf.bytes_length]; rfl
    have hb := bt_text 120 (impl_WaveOf.lev p o high) i (by omega)
    have hr := ih k (i + 1) (by omega) (by omega)
    have e1 : ((i + 1 : Nat) : Int) = (i : Int) + 1 := by omega
    rw [e1] at hr
    simp only [laws_FnClockEdges.l1]
    rw [if_pos (by omega), hs, hb]
    by_cases c : (i : Int) ≥ o
    · rw [if_pos c, if_neg (by omega), if_pos (by omega), if_pos (by omega), w64 (x := (i : Int) - o) (by omega) (by omega), tmod_pos _ _ (by omega), w64 (x := (i : Int) + 1) (by omega) (by omega), hr]
      have hl : impl_WaveOf.lev p o high i = decide (((i : Int) - o) % p < high) := by
        unfold impl_WaveOf.lev; rw [decide_eq_true (by omega)]; simp
      rw [hl]
      by_cases hd : ((i : Int) - o) % p < high <;> simp [hd]
    · rw [if_neg c, if_pos (by omega), if_pos (by omega), w64 (x := (i : Int) + 1) (by omega) (by omega), hr]
      have hl : impl_WaveOf.lev p o high i = false := by
        unfold impl_WaveOf.lev; rw [decide_eq_false (by omega)]; rfl
      rw [hl]; simp
end ClockEdges_
open ClockEdges_
/-- The whole of the search for edges, and what is asked behind it. -/
theorem ClockEdges_.edges_loop {l1 : List Int} (u1 : U8 l1) (p o from_ to_ : Int) (hp : 1 ≤ p) (h20 : p ≤ 20) (ho : 0 ≤ o) (h29 : o ≤ 29) (hf : 0 ≤ from_) (hft : from_ ≤ to_) (ht : to_ ≤ 200) :
    ∀ (d k : Nat) (t : Int), from_ ≤ t → to_ - t = d → 2 * d + 200 < k →
      laws_FnClockEdges.l0 k l1 from_ to_ (o + eb p o from_ * p) true (eb p o to_ - eb p o from_) true (eb p o t - eb p o from_) t p o = some true := by
  have n0 := eb_nonneg p o from_ hp
  have nle := eb_le p o from_ hp ho hf
  have nb := mul_bd n0 nle (by omega : 0 ≤ p) h20
  intro d
  induction d with
  | zero =>
    intro k t h0 hd hk
    obtain ⟨k, rfl⟩ : ∃ m, k = m + 1 := ⟨k - 1, by omega⟩
    have et : t = to_ := by omega
    subst et
    obtain ⟨kk, hkk, k0, k1⟩ := r8At_eq u1 2 50 (by omega) (by omega)
    obtain ⟨high, hh, hi0, hi1⟩ := r8At_eq u1 3 (p + 1) (by omega) (by omega)
    have kb := mul_bd k0 (by omega : kk ≤ 50) (by omega : 0 ≤ p) h20
    have e0 := eb_one p o kk hp k0
    have z0 := eb_zero p o ho
    have gf : ¬ (o + eb p o from_ * p < from_) := fun hc => by have := (eb_lt p o from_ hp _ n0).2 hc; omega
    simp only [laws_FnClockEdges.l0]
    rw [if_neg (by omega), hkk]; simp only [Option.bind_some]
    rw [edge_eq p o kk hp (by omega) ho (by omega) (by omega) (by omega) (by omega)]; simp only [Option.bind_some]
    have hci : impl_CountEdgesIn.f k p o 0 (o + kk * p) = some (kk, true) := by
      obtain ⟨k, rfl⟩ : ∃ m, k = m + 1 := ⟨k - 1, by omega⟩
      unfold impl_CountEdgesIn.f
      rw [valid_eq, moment_eq, moment_eq]; simp only [Option.bind_some]
      rw [if_pos (decide_eq_true (by omega)), if_pos (decide_eq_true (by omega)), if_pos (decide_eq_true (by omega)), decide_eq_false (by omega)]
      simp only [impl_CountEdgesIn.j0, Bool.false_eq_true, if_false]
      rw [before_eq p o _ hp (by omega) ho (by omega) (by omega) (by omega), before_eq p o _ hp (by omega) ho (by omega) (by omega) (by omega)]
      simp only [Option.bind_some]
      rw [e0, z0, w64 (by omega) (by omega)]; simp
    rw [hci]; simp only [Option.bind_some]
    rw [w64 (x := p + 1) (by omega) (by omega), hh]; simp only [Option.bind_some]
    have hwv : impl_WaveOf.f p o high 120 = some (impl_waveOf.text 120 (impl_WaveOf.lev p o high), true) := by
      unfold impl_WaveOf.f
      rw [if_pos (by omega), if_pos (by omega), if_pos (by omega)]; rfl
    rw [hwv]; simp only [Option.bind_some, if_true]
    rw [if_neg (by omega), if_neg (by omega), if_neg (by omega), w64 (x := o + eb p o from_ * p - o) (by omega) (by omega), show o + eb p o from_ * p - o = eb p o from_ * p by omega, tmod_pos _ _ (by omega), Int.mul_emod_left]
    simp only [if_true]
    rw [w64 (x := kk * p) (by omega) (by omega), w64 (x := o + kk * p) (by omega) (by omega)]
    simp only [if_true]
    have hs : ((impl_waveOf.text 120 (impl_WaveOf.lev p o high)).size : Int) = 120 := by
      unfold impl_waveOf.text; rw [size_nums, impl_waveOf.bytes_length]; rfl
    rw [if_pos hs, valid_eq, decide_eq_true (by omega)]; simp only [Option.bind_some]
    obtain ⟨k, rfl⟩ : ∃ m, k = m + 1 := ⟨k - 1, by omega⟩
    simp only [laws_FnClockEdges.j2]
    rw [if_neg (by simp)]
    exact wave_loop p o high hp h20 ho h29 120 k 0 rfl (by omega)
  | succ d ih =>
    intro k t h0 hd hk
    obtain ⟨k, rfl⟩ : ∃ m, k = m + 1 + 1 := ⟨k - 2, by omega⟩
    have e0 := eb_nonneg p o t hp
    have e1 := eb_le p o t hp ho (by omega)
    have e2 := eb_nonneg p o (t + 1) hp
    have e3 := eb_le p o (t + 1) hp ho (by omega)
    have hr := ih k (t + 1) (by omega) (by omega) (by omega)
    simp only [laws_FnClockEdges.l0]
    rw [if_pos (by omega)]
    by_cases c : t ≥ o
    · rw [if_pos c, if_neg (by omega), w64 (x := t - o) (by omega) (by omega), tmod_pos _ _ (by omega)]
      simp only [laws_FnClockEdges.j1]
      by_cases hm : (t - o) % p = 0
      · obtain ⟨f1, f2⟩ := eb_edge p o t hp c hm
        have fm := eb_mono p o from_ t hp h0
        have fn := Int.mul_le_mul_of_nonneg_right fm (by omega : 0 ≤ p)
        rw [hm, if_pos (by simp), if_neg (by omega), w64 (x := eb p o t - eb p o from_ + 1) (by omega) (by omega), w64 (x := t + 1) (by omega) (by omega), show eb p o t - eb p o from_ + 1 = eb p o (t + 1) - eb p o from_ by omega]
        exact hr
      · have f1 := eb_none p o t hp (fun h => hm h.2)
        rw [if_neg (by simp [hm]), w64 (x := t + 1) (by omega) (by omega), ← f1]
        exact hr
    · have f1 := eb_none p o t hp (fun h => c h.1)
      rw [if_neg c]
      simp only [laws_FnClockEdges.j1]
      rw [if_neg (by simp), w64 (x := t + 1) (by omega) (by omega), ← f1]
      exact hr

theorem FnClockEdges : laws_FnClockEdges.Pure := by
  intro l0 l1 _ _ u0 _ _ u1
  refine ⟨1001, ?_⟩
  unfold laws_FnClockEdges.f
  have hlong : ∃ b, laws_r8Long.f l0 l1 = some b := by unfold laws_r8Long.f; split <;> exact ⟨_, rfl⟩
  obtain ⟨b, hb⟩ := hlong
  rw [hb]; simp only [Option.bind_some]
  cases b with
  | true => rfl
  | false =>
  simp only [Bool.false_eq_true, if_false]
  obtain ⟨p, o, hc, p1, p2, o1, o2⟩ := clock_eq u0
  obtain ⟨from_, hf, f0, f1⟩ := r8At_eq u1 0 100 (by omega) (by omega)
  obtain ⟨n, hn, n0, n1⟩ := r8At_eq u1 1 100 (by omega) (by omega)
  rw [hc]; simp only [Option.bind_some]
  rw [hf]; simp only [Option.bind_some]
  rw [hn]; simp only [Option.bind_some]
  have a0 := eb_nonneg p o from_ p1
  have a1 := eb_le p o from_ p1 o1 f0
  have a2 := eb_nonneg p o (from_ + n) p1
  have a3 := eb_le p o (from_ + n) p1 o1 (by omega)
  have a4 := mul_bd a0 a1 (by omega : 0 ≤ p) p2
  have hnext : impl_NextEdge.f p o from_ = some (o + eb p o from_ * p, true) := by
    unfold impl_NextEdge.f
    rw [valid_eq, moment_eq]; simp only [Option.bind_some]
    rw [if_pos (decide_eq_true (by omega)), if_pos (decide_eq_true (by omega)), before_eq p o _ p1 (by omega) o1 (by omega) (by omega) (by omega)]
    simp only [Option.bind_some]
    rw [w64 (x := eb p o from_ * p) (by omega) (by omega), w64 (by omega) (by omega)]
  rw [hnext]; simp only [Option.bind_some]
  rw [w64 (x := from_ + n) (by omega) (by omega)]
  have hci : impl_CountEdgesIn.f 1001 p o from_ (from_ + n) = some (eb p o (from_ + n) - eb p o from_, true) := by
    unfold impl_CountEdgesIn.f
    rw [valid_eq, moment_eq, moment_eq]; simp only [Option.bind_some]
    rw [if_pos (decide_eq_true (by omega)), if_pos (decide_eq_true (by omega)), if_pos (decide_eq_true (by omega)), decide_eq_false (by omega)]
    simp only [impl_CountEdgesIn.j0, Bool.false_eq_true, if_false]
    rw [before_eq p o _ p1 (by omega) o1 (by omega) (by omega) (by omega), before_eq p o _ p1 (by omega) o1 (by omega) (by omega) (by omega)]
    simp only [Option.bind_some]
    rw [w64 (by omega) (by omega)]
  rw [hci]; simp only [Option.bind_some]
  have := ClockEdges_.edges_loop u1 p o from_ (from_ + n) p1 p2 o1 o2 f0 (by omega) (by omega) n.toNat 1001 from_ (by omega) (by omega) (by omega)
  rw [show eb p o from_ - eb p o from_ = 0 by omega] at this
  exact this

end Go.Proofs.Ytfoedfigjcmjbaa.Pure
