import Derived.Test.YtmadpelampanfaaDoorA6
import Derived.Test.YtmadpelampanfaaDoorA8
import Derived.Test.YtmadpelampanfaaDoorA11
import Derived.Test.YtmadpelampanfaaDoorA4
import Derived.Test.YtmadpelampanfaaDoorA5
import Derived.Test.YtmadpelampanfaaDoorA7
import Derived.Test.YtmadpelampanfaaDoorA9
import Derived.Test.YtmadpelampanfaaDoorA10
import Derived.Test.YtmadpelampanfaaDoorA12
import Derived.Test.YtmadpelampanfaaDoorA15
import Derived.Test.YtmadpelampanfaaDoorAPureOfFnExactDutyOf
/- The reference's fractions in lowest terms are the program's. Conditions: parts of at most MaxPart. -/
namespace Go.Proofs.YtmadpelampanfaaDoor.A
set_option linter.unusedVariables false
set_option linter.unusedSimpArgs false
open Go.RowKit Go.Proofs.YtmadpelampanfaaDoorW.PrintWords Go.Proofs.YtmadpelampanfaaDoorW.PrintLast Go.Proofs.YtmadpelampanfaaDoorW.PrintMore
theorem specGcd_loop : ∀ (m a b : Nat), b ≤ m → ∀ K, spec_l01Gcd.l0 (K + (m + 1)) (a : Int) (b : Int) = some ((Nat.gcd a b : Nat) : Int) := by
  intro m
  induction m with
  | zero =>
    intro a b hb K
    have e : b = 0 := by omega
    subst e
    show spec_l01Gcd.l0 (K + 0 + 1) (a : Int) 0 = _
    unfold spec_l01Gcd.l0
    rw [if_neg (by omega)]
    simp
  | succ m ih =>
    intro a b hb K
    rw [show K + (m + 1 + 1) = K + (m + 1) + 1 by omega]
    unfold spec_l01Gcd.l0
    by_cases h : b = 0
    · subst h
      rw [if_neg (by omega)]; simp
    · have hlt : a % b < b := Nat.mod_lt _ (by omega)
      have e : Int.tmod (a : Int) (b : Int) = ((a % b : Nat) : Int) := by rw [Int.tmod_eq_emod_of_nonneg (by omega)]; exact (Int.natCast_emod a b).symm
      rw [if_pos (by omega), if_neg (by omega), e, ih b (a % b) (by omega) K, Nat.gcd_comm b, ← Nat.gcd_rec, Nat.gcd_comm]
theorem specMax (a : Int) (h : a.natAbs ≤ 9223372036854775807) : spec_l00Max.f a (wrap64 (-a)) = some (a.natAbs : Int) := by
  have hw : wrap64 (-a) = -a := w64 (by omega) (by omega)
  rw [hw]
  unfold spec_l00Max.f
  by_cases c : a > -a
  · rw [if_pos c]; congr 1; omega
  · rw [if_neg c]; congr 1; omega
theorem tdiv_sgn (a : Int) (g : Nat) : Int.tdiv a (g : Int) = sgn (decide (a < 0)) ((a.natAbs : Int) / (g : Int)) := by
  unfold sgn
  by_cases c : a < 0
  · rw [decide_eq_true c, if_pos rfl]
    have e : a = -(a.natAbs : Int) := by omega
    rw [show (Int.tdiv a (g : Int)) = Int.tdiv (-(a.natAbs : Int)) (g : Int) by rw [← e], Int.neg_tdiv, Int.tdiv_eq_ediv_of_nonneg (by omega)]
  · rw [decide_eq_false c, if_neg (by decide), Int.tdiv_eq_ediv_of_nonneg (by omega)]
    congr 1; omega
theorem gcdI_pos (a b : Int) (hb : b ≠ 0) : 0 < gcdI a b := by
  have := Nat.gcd_pos_of_pos_right a.natAbs (show 0 < b.natAbs by omega)
  unfold gcdI; omega
theorem specFMake (a b : Int) (hb : b ≠ 0) (ha : a.natAbs ≤ 9223372036854775807) (hb' : b.natAbs ≤ 9223372036854775807) : ∃ m, ∀ K, spec_l01FMake.f (K + m) a b = some (numI a b, denI a b) := by
  refine ⟨b.natAbs + 1, fun K => ?_⟩
  have hg := gcdI_pos a b hb
  have hn := numI_le a b
  have hd := denI_le a b
  have ew : wrap64 (numI a b) = numI a b := w64 (by omega) (by omega)
  have ew2 : wrap64 (denI a b) = denI a b := w64 (by omega) (by omega)
  have hg0 : ¬ ((Nat.gcd a.natAbs b.natAbs : Nat) : Int) = 0 := by unfold gcdI at hg; omega
  unfold spec_l01FMake.f spec_l01Gcd.f
  by_cases c : b < 0
  · have wa : wrap64 (-a) = -a := w64 (by omega) (by omega)
    have wb : wrap64 (-b) = -b := w64 (by omega) (by omega)
    have eb : -b = (b.natAbs : Int) := by omega
    rw [if_pos c, wa, specMax (-a) (by omega), Option.bind_some, wb, eb, Int.natAbs_neg, specGcd_loop b.natAbs a.natAbs b.natAbs (Nat.le_refl _) K, Option.bind_some, if_neg hg0]
    have e1 : Int.tdiv (-a) ((Nat.gcd a.natAbs b.natAbs : Nat) : Int) = numI a b := by
      rw [tdiv_sgn, Int.natAbs_neg]
      unfold numI gcdI
      rw [decide_eq_true c]
      by_cases h0 : a = 0
      · subst h0; simp [sgn]
      · congr 1
        by_cases h : a < 0 <;> simp [h] <;> omega
    have e2 : Int.tdiv (b.natAbs : Int) ((Nat.gcd a.natAbs b.natAbs : Nat) : Int) = denI a b := by rw [Int.tdiv_eq_ediv_of_nonneg (by omega)]; rfl
    rw [e1, e2, ew, ew2]
  · rw [if_neg c, specMax a ha, Option.bind_some]
    have eb : b = (b.natAbs : Int) := by omega
    have e1 : Int.tdiv a ((Nat.gcd a.natAbs b.natAbs : Nat) : Int) = numI a b := by
      rw [tdiv_sgn]
      unfold numI gcdI
      rw [decide_eq_false c]
      congr 1
      cases decide (a < 0) <;> rfl
    have e2 : Int.tdiv b ((Nat.gcd a.natAbs b.natAbs : Nat) : Int) = denI a b := by
      rw [Int.tdiv_eq_ediv_of_nonneg (by omega)]; unfold denI gcdI; congr 1
    have hgl := specGcd_loop b.natAbs a.natAbs b.natAbs (Nat.le_refl _) K
    rw [← eb] at hgl
    rw [hgl, Option.bind_some, if_neg hg0, e1, e2, ew, ew2]
theorem lowest (a b : Int) (hb : b ≠ 0) : 1 ≤ denI a b ∧ Nat.gcd (numI a b).natAbs (denI a b).natAbs = 1 := by
  have hg : 0 < Nat.gcd a.natAbs b.natAbs := Nat.gcd_pos_of_pos_right _ (by omega)
  have e1 : (denI a b).natAbs = b.natAbs / Nat.gcd a.natAbs b.natAbs := by
    unfold denI gcdI; rw [← Int.natCast_ediv, Int.natAbs_natCast]
  have e2 : (numI a b).natAbs = a.natAbs / Nat.gcd a.natAbs b.natAbs := by
    unfold numI gcdI sgn; rw [← Int.natCast_ediv]
    split
    · rw [Int.natAbs_neg, Int.natAbs_natCast]
    · rw [Int.natAbs_natCast]
  have h1 : 0 < b.natAbs / Nat.gcd a.natAbs b.natAbs := Nat.div_pos (Nat.le_of_dvd (by omega) (Nat.gcd_dvd_right _ _)) hg
  have h0 : 0 ≤ denI a b := by unfold denI gcdI; exact Int.ediv_nonneg (by omega) (by omega)
  exact ⟨by omega, by rw [e1, e2]; exact Nat.coprime_div_gcd_div_gcd hg⟩
theorem chkF_yes {n d : Int} (h1 : 1 ≤ d) (h2 : d ≤ 1000000000000000000) (h3 : -1000000000000000000 ≤ n) (h4 : n ≤ 1000000000000000000) (hg : Nat.gcd n.natAbs d.natAbs = 1) : chkF n d = (n, d, true) := by
  have c1 : in64 n = true := decide_eq_true ⟨by omega, by omega⟩
  have c2 : in64 d = true := decide_eq_true ⟨by omega, by omega⟩
  exact if_pos ⟨c1, c2, okF_iff.2 ⟨⟨h1, h2⟩, ⟨h3, h4⟩, hg⟩⟩
theorem mkF_small (a b : Int) (hb : b ≠ 0) (ha : a.natAbs ≤ 1000000000000000000) (hb' : b.natAbs ≤ 1000000000000000000) : mkF a b = (numI a b, denI a b, true) := by
  obtain ⟨h1, h2⟩ := lowest a b hb
  have h3 := numI_le a b
  have h4 := denI_le a b
  exact chkF_yes h1 (by omega) (by omega) (by omega) h2
theorem make_small (a b : Int) (hb : b ≠ 0) (ha : a.natAbs ≤ 1000000000000000000) (hb' : b.natAbs ≤ 1000000000000000000) : impl_MakeFraction.f a b = some (numI a b, denI a b, true) := by
  unfold impl_MakeFraction.f
  rw [if_pos ⟨hb, decide_eq_true ⟨by omega, by omega⟩, decide_eq_true ⟨by omega, by omega⟩⟩, mkF_small a b hb ha hb']
theorem eqF_self (a b : Int) : laws_eqFraction.f a b a b = some true := by unfold laws_eqFraction.f; rw [if_pos rfl, if_pos rfl]
end Go.Proofs.YtmadpelampanfaaDoor.A

/- Duty of a wave: the levels that are 1, of the program and of the reference. No conditions. -/
namespace Go.Proofs.YtmadpelampanfaaDoor.Pure
set_option linter.unusedVariables false
set_option linter.unusedSimpArgs false
open Go.RowKit Go.Proofs.YtmadpelampanfaaDoor.A Go.Proofs.YtmadpelampanfaaDoorW.PrintWords Go.Proofs.YtmadpelampanfaaDoorW.PrintLast Go.Proofs.YtmadpelampanfaaDoorW.PrintMore
theorem w64' {x : Int} (h0 : -9223372036854775808 ≤ x) (h1 : x < 9223372036854775808) : wrap64 x = x := by unfold wrap64; omega
theorem ev_const {α : Type} {g : Nat → Option α} {r : α} (h : ∀ k, g k = some r) : Ev g r := ⟨0, fun k _ => h k⟩
abbrev BA := ByteArray
def waveB (s : ByteArray) : Bool := s.data.toList.all (fun b => decide (b.toNat = 48 ∨ b.toNat = 49)) && decide (s.size ≤ 400)
theorem bt_get (s : ByteArray) (i : Nat) (h : i < s.size) : bt s (i : Int) = ((s.data.toList[i]'(by simpa using h)).toNat : Int) := by
  unfold bt
  rw [Int.toNat_natCast, dif_pos h]
  rfl
theorem wave_loop (s : ByteArray) (hs : s.size ≤ 9223372036854775807) : ∀ (d i : Nat), i + d = s.size → ∀ K, spec_l01Wave.l0 (K + d + 1) s (i : Int) = some ((s.data.toList.drop i).all (fun b => decide (b.toNat = 48 ∨ b.toNat = 49)) && decide (s.size ≤ 400))
  | 0, i, hi, K => by
    have hl : s.data.toList.length = s.size := by simp
    simp only [spec_l01Wave.l0]
    rw [if_neg (by omega), List.drop_of_length_le (by omega)]
    simp only [List.all_nil, Bool.true_and]
    congr 1
    rw [decide_eq_decide]
    omega
  | d + 1, i, hi, K => by
    have hl : s.data.toList.length = s.size := by simp
    have ih := wave_loop s hs d (i + 1) (by omega) K
    show spec_l01Wave.l0 (K + d + 1 + 1) s (i : Int) = _
    obtain ⟨M, hM⟩ : ∃ M, K + d + 1 = M := ⟨_, rfl⟩
    rw [hM] at ih ⊢
    simp only [spec_l01Wave.l0]
    rw [if_pos (by omega), if_pos (by omega), bt_get s i (by omega), List.drop_eq_getElem_cons (by omega), List.all_cons]
    obtain ⟨x, hx⟩ : ∃ x, (s.data.toList[i]'(by omega)) = x := ⟨_, rfl⟩
    rw [hx]
    by_cases c : (x.toNat : Int) = 48
    · rw [if_pos c, decide_eq_true (p := x.toNat = 48 ∨ x.toNat = 49) (by omega), Bool.true_and, show wrap64 ((i : Int) + 1) = ((i + 1 : Nat) : Int) by unfold wrap64; omega, ih]
    · rw [if_neg c]
      by_cases c2 : (x.toNat : Int) = 49
      · rw [if_pos c2, decide_eq_true (p := x.toNat = 48 ∨ x.toNat = 49) (by omega), Bool.true_and, show wrap64 ((i : Int) + 1) = ((i + 1 : Nat) : Int) by unfold wrap64; omega, ih]
      · rw [if_neg c2, decide_eq_false (p := x.toNat = 48 ∨ x.toNat = 49) (fun z => by omega)]; rfl
theorem drop_nil {p : UInt8 → Bool} : ∀ (l : List UInt8), l.dropWhile p = [] → l.all p = true
  | [], _ => rfl
  | x :: l, h => by
    rw [List.dropWhile_cons] at h
    cases hx : p x
    · rw [hx] at h; simp at h
    · rw [hx, if_pos rfl] at h
      rw [List.all_cons, hx, drop_nil l h]; rfl
theorem drop_head {p : UInt8 → Bool} : ∀ (l : List UInt8) (x : UInt8) (r : List UInt8), l.dropWhile p = x :: r → p x = false
  | [], _, _, h => by simp at h
  | y :: l, x, r, h => by
    rw [List.dropWhile_cons] at h
    cases hy : p y
    · rw [hy, if_neg (by decide)] at h
      injection h with h1 h2
      rw [← h1]; exact hy
    · rw [hy, if_pos rfl] at h
      exact drop_head l x r h
theorem drop_all {p : UInt8 → Bool} : ∀ (l : List UInt8), l.all p = true → l.dropWhile p = []
  | [], _ => rfl
  | x :: l, h => by
    rw [List.all_cons, Bool.and_eq_true] at h
    rw [List.dropWhile_cons, if_pos h.1]
    exact drop_all l h.2
theorem trim_nil (l cs : List UInt8) : (Lib.trimS l cs == []) = l.all (cs.contains ·) := by
  unfold Lib.trimS Lib.trimLeftS Lib.trimRightS
  cases h : l.all (cs.contains ·)
  · rw [beq_eq_false_iff_ne]
    intro h2
    have h3 := drop_nil _ h2
    cases hd : l.reverse.dropWhile (cs.contains ·) with
    | nil =>
      have h4 := drop_nil _ hd
      rw [List.all_reverse, h] at h4
      exact absurd h4 (by decide)
    | cons x r =>
      rw [hd, List.all_reverse, List.all_cons, drop_head _ x r hd, Bool.false_and] at h3
      exact absurd h3 (by decide)
  · rw [beq_iff_eq, drop_all l.reverse (by rw [List.all_reverse]; exact h)]
    rfl
theorem all_u8 {p : UInt8 → Bool} (h : (List.range 256).all (fun n => p (UInt8.ofNat n)) = true) (x : UInt8) : p x = true := by
  have := List.all_eq_true.1 h x.toNat (List.mem_range.2 x.toNat_lt)
  rwa [UInt8.ofNat_toNat] at this
theorem has_level (x : UInt8) : ([48, 49] : List UInt8).contains x = decide (x.toNat = 48 ∨ x.toNat = 49) :=
  beq_iff_eq.1 (all_u8 (p := fun x => ([48, 49] : List UInt8).contains x == decide (x.toNat = 48 ∨ x.toNat = 49)) (by decide +kernel) x)
theorem data_size (s : ByteArray) : s.data.toList.length = s.size := by simp
theorem implWave (s : ByteArray) (hs : s.size ≤ 1048576) : impl_IsWave.f s = some (waveB s) := by
  unfold impl_IsWave.f waveB strings_Trim.f
  by_cases c : s.size ≤ 400
  · rw [if_pos (by omega), if_pos ⟨by omega, by decide, by decide⟩, Option.bind_some, decide_eq_true c, Bool.and_true, ByteArray.toList_mk, trim_nil]
    congr 2
    funext x
    exact has_level x
  · rw [if_neg (by omega), decide_eq_false c, Bool.and_false]
theorem ev_wave (s : ByteArray) (hs : s.size ≤ 1048576) : Ev (fun k => spec_l01Wave.f k s) (waveB s) := by
  refine ⟨s.size + 1, fun k hk => ?_⟩
  have h := wave_loop s (by omega) s.size 0 (by omega) (k - (s.size + 1))
  rw [show k - (s.size + 1) + s.size + 1 = k by omega] at h
  exact h
theorem ev_ones (s : ByteArray) (hs : s.size ≤ 1048576) (hw : ∀ x ∈ s.data.toList, x.toNat = 48 ∨ x.toNat = 49) : ∀ (d i : Nat) (c : Int), i + d = s.size → 0 ≤ c → c ≤ i → Ev (fun k => spec_l01Ones.l0 k s c (i : Int)) (c + (((s.data.toList.drop i).count 49 : Nat) : Int))
  | 0, i, c, hi, h0, h1 => by
    have hl : s.data.toList.length = s.size := by simp
    rw [List.drop_of_length_le (by omega), List.count_nil]
    refine Ev.step (f := fun _ => some (c + ((0 : Nat) : Int))) (fun k => ?_) (Ev.now _)
    simp only [spec_l01Ones.l0]
    rw [if_neg (by omega)]; simp
  | d + 1, i, c, hi, h0, h1 => by
    have hl : s.data.toList.length = s.size := by simp
    have hb := bt_get s i (by omega)
    have hx := hw _ (List.getElem_mem (show i < s.data.toList.length by omega))
    rw [List.drop_eq_getElem_cons (by omega), List.count_cons]
    obtain ⟨x, hxx⟩ : ∃ x, (s.data.toList[i]'(by omega)) = x := ⟨_, rfl⟩
    rw [hxx] at hb hx ⊢
    have hv : c + (((s.data.toList.drop (i + 1)).count 49 + (if (x == 49) = true then 1 else 0) : Nat) : Int) = (c + (((x.toNat : Int) - 48) % 256)) + (((s.data.toList.drop (i + 1)).count 49 : Nat) : Int) := by
      rcases hx with h | h
      · have e : (x == 49) = false := by rw [beq_eq_false_iff_ne]; intro q; rw [q] at h; exact absurd h (by decide)
        rw [e, h]; simp
      · have e : (x == 49) = true := by rw [beq_iff_eq]; exact UInt8.toNat_inj.1 (by rw [h]; rfl)
        rw [e, h]; simp; omega
    rw [hv]
    have hm : 0 ≤ ((x.toNat : Int) - 48) % 256 ∧ ((x.toNat : Int) - 48) % 256 ≤ 1 := by rcases hx with h | h <;> rw [h] <;> decide
    have ih := ev_ones s hs hw d (i + 1) (c + (((x.toNat : Int) - 48) % 256)) (by omega) (by omega) (by omega)
    refine Ev.step (f := fun k => spec_l01Ones.l0 k s (c + (((x.toNat : Int) - 48) % 256)) ((i + 1 : Nat) : Int)) (fun k => ?_) ih
    simp only [spec_l01Ones.l0]
    rw [if_pos (by omega), if_pos (by omega), hb, w64' (x := (i : Int) + 1) (by omega) (by omega), w64' (x := c + (((x.toNat : Int) - 48) % 256)) (by omega) (by omega)]
    rfl
theorem wave_has {s : ByteArray} (h : waveB s = true) : (∀ x ∈ s.data.toList, x.toNat = 48 ∨ x.toNat = 49) ∧ s.size ≤ 400 := by
  unfold waveB at h
  rw [Bool.and_eq_true] at h
  exact ⟨fun x hx => of_decide_eq_true (List.all_eq_true.1 h.1 x hx), of_decide_eq_true h.2⟩
/-- What both return. -/
def dutyR (s : ByteArray) : Int × Int × Bool := if waveB s = true ∧ s.size ≠ 0 then (numI ((s.data.toList.count 49 : Nat) : Int) (s.size : Int), denI ((s.data.toList.count 49 : Nat) : Int) (s.size : Int), true) else (0, 0, false)
theorem ev_specDuty (s : ByteArray) (hs : s.size ≤ 1048576) : Ev (fun k => spec_DutyOf.f k s) (dutyR s) := by
  unfold spec_DutyOf.f dutyR
  refine Ev.bind (ev_wave s hs) ?_
  cases h : waveB s
  · rw [if_neg (by simp)]
    simp only [Bool.false_eq_true, if_false]
    exact Ev.step (f := fun _ => some (0, 0, false)) (fun k => by simp only [spec_DutyOf.j0, if_true]) (Ev.now _)
  · simp only [if_true]
    obtain ⟨hw, h4⟩ := wave_has h
    by_cases c : s.size = 0
    · rw [if_neg (fun z => z.2 c), c]
      exact Ev.step (f := fun _ => some (0, 0, false)) (fun k => by simp only [spec_DutyOf.j0]; rfl) (Ev.now _)
    · rw [if_pos ⟨trivial, c⟩]
      have hc : List.count 49 s.data.toList ≤ s.size := by have := List.count_le_length (a := (49 : UInt8)) (l := s.data.toList); simpa using this
      have hb : ((s.size : Int) == 0) = false := by rw [beq_eq_false_iff_ne]; omega
      rw [hb]
      have ho := ev_ones s hs hw s.size 0 0 (by omega) (Int.le_refl _) (Int.le_refl _)
      rw [List.drop_zero, Int.zero_add] at ho
      obtain ⟨m, hm⟩ := specFMake ((s.data.toList.count 49 : Nat) : Int) (s.size : Int) (by omega) (by omega) (by omega)
      have hF : Ev (fun k => spec_l01FMake.f k ((s.data.toList.count 49 : Nat) : Int) (s.size : Int)) (numI ((s.data.toList.count 49 : Nat) : Int) (s.size : Int), denI ((s.data.toList.count 49 : Nat) : Int) (s.size : Int)) := ⟨m, fun k hk => by have := hm (k - m); rwa [Nat.sub_add_cancel hk] at this⟩
      refine Ev.step (f := fun k => (spec_l01Ones.f k s).bind fun t => (spec_l01FMake.f k t (s.size : Int)).bind fun q => some (q.1, q.2, true)) (fun k => by simp only [spec_DutyOf.j0]; rfl) ?_
      exact Ev.bind ho (Ev.bind hF (Ev.now _))
theorem ev_implDuty (s : ByteArray) (hs : s.size ≤ 1048576) : Ev (fun k => impl_DutyOf.f k s) (dutyR s) := by
  unfold impl_DutyOf.f dutyR
  simp only [implWave s hs, Option.bind_some]
  have hL : (s.toList == ([] : List UInt8)) = decide (s.size = 0) := by
    rw [Lib.toList_data, Lib.size_eq]
    cases s.data.toList <;> rfl
  cases h : waveB s
  · rw [if_neg (by simp)]
    simp only [Bool.false_eq_true, if_false]
    exact Ev.step (f := fun _ => some (0, 0, false)) (fun k => by simp only [impl_DutyOf.j0, if_true]) (Ev.now _)
  · simp only [if_true]
    obtain ⟨hw, h4⟩ := wave_has h
    rw [hL]
    by_cases c : s.size = 0
    · rw [if_neg (fun z => z.2 c), decide_eq_true c]
      exact Ev.step (f := fun _ => some (0, 0, false)) (fun k => by simp only [impl_DutyOf.j0, if_true]) (Ev.now _)
    · rw [if_pos ⟨trivial, c⟩, decide_eq_false c]
      have hc : List.count 49 s.data.toList ≤ s.size := by have := List.count_le_length (a := (49 : UInt8)) (l := s.data.toList); simpa using this
      have hC : strings_Count.f s (⟨#[49]⟩ : ByteArray) = some ((s.data.toList.count 49 : Nat) : Int) := by
        unfold strings_Count.f; rw [if_pos (show (⟨#[49]⟩ : ByteArray).size = 1 from rfl)]; rfl
      refine Ev.step (f := fun _ => some (numI ((s.data.toList.count 49 : Nat) : Int) (s.size : Int), denI ((s.data.toList.count 49 : Nat) : Int) (s.size : Int), true)) (fun k => ?_) (Ev.now _)
      simp only [impl_DutyOf.j0, Bool.false_eq_true, if_false, hC, Option.bind_some]
      rw [make_small _ _ (by omega) (by omega) (by omega)]
      rfl
end Go.Proofs.YtmadpelampanfaaDoor.Pure

/- The pure side of FnExactDutyOf: for all waves the program's DutyOf and the reference's answer alike. No conditions. -/
namespace Go.Proofs.YtmadpelampanfaaDoor.Pure
set_option linter.unusedVariables false
set_option linter.unusedSimpArgs false
open Go.RowKit Go.Proofs.YtmadpelampanfaaDoor.A Go.Proofs.YtmadpelampanfaaDoorW.PrintWords Go.Proofs.YtmadpelampanfaaDoorW.PrintLast Go.Proofs.YtmadpelampanfaaDoorW.PrintMore
theorem FnExactDutyOf : laws_FnExactDutyOf.Pure := by
  intro s hw
  refine Ev.rounds ?_
  unfold laws_FnExactDutyOf.f
  by_cases c : (s.size : Int) > 1048576
  · simp only [if_pos c]; exact Ev.now _
  · simp only [if_neg c]
    refine Ev.bind (ev_specDuty s (by omega)) (Ev.bind (ev_implDuty s (by omega)) ?_)
    simp only [eqF_self, Option.bind_some, if_true, bne_self_eq_false, Bool.false_eq_true, if_false]
    exact Ev.now _
end Go.Proofs.YtmadpelampanfaaDoor.Pure
