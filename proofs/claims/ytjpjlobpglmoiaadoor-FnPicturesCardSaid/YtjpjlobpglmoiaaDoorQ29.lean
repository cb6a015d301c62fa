/- Texts of this claim, put together by this session's pack2.py: each part is introduced by its own comment. No conditions. -/
import Derived.Test.YtjpjlobpglmoiaaDoorQ24
import Derived.Test.YtjpjlobpglmoiaaDoorA8
import Derived.Test.YtjpjlobpglmoiaaDoorPictures
/- What is left to prove of the law FnPictures, about numbers and lists alone. Written by this session's row2.py. No conditions. -/
namespace Go.Proofs.YtjpjlobpglmoiaaDoor.A
open Go.RowKit Go.Proofs.YtjpjlobpglmoiaaDoorW.PrintWords Go.Proofs.YtjpjlobpglmoiaaDoorW.PrintLast Go.Proofs.YtjpjlobpglmoiaaDoor.O
def laws_FnPictures.Pure : Prop := ∀ (x0 : List Int) (x1 : List Int), Wf_L5 x0 → Wf_L5 x1 → ∃ k, laws_FnPictures.f k x0 x1 = some true
end Go.Proofs.YtjpjlobpglmoiaaDoor.A
/- The pure side of FnPictures: a picture has a line for each wave, with its name and its levels. No conditions. -/
namespace Go.Proofs.YtjpjlobpglmoiaaDoor.Pure
set_option linter.unusedVariables false
set_option linter.unusedSimpArgs false
open Go.RowKit Go.Proofs.YtjpjlobpglmoiaaDoor.A Go.Proofs.YtjpjlobpglmoiaaDoorW.PrintWords Go.Proofs.YtjpjlobpglmoiaaDoorW.PrintLast Go.Proofs.YtjpjlobpglmoiaaDoorW.PrintMore
theorem bs_ex (l : List UInt8) (a b : Nat) : (bs l).extract a b = bs ((l.drop a).take (b - a)) := by rw [Lib.extract_eq]; rfl
theorem cells_get (w : List UInt8) : ∀ (d i j : Nat), j < d → (cells w i d)[j]? = some (cell w (i + j))
  | 0, i, j, h => absurd h (by omega)
  | d + 1, i, j, h => by
    rw [cells]
    cases j with
    | zero => rfl
    | succ j => rw [List.getElem?_cons_succ, cells_get w d (i + 1) j (by omega), show i + 1 + j = i + (j + 1) by omega]
def restL (N V : List ByteArray) (f n : Nat) : Nat → Nat → List UInt8
  | 0, _ => []
  | d + 1, q => lineOf N V f n q ++ restL N V f n d (q + 1)
theorem fin_eq (N V : List ByteArray) (f n : Nat) : ∀ (d q : Nat) (o : List UInt8), fin N V f n d q o = o ++ restL N V f n d q
  | 0, q, o => by simp [fin, restL]
  | d + 1, q, o => by rw [fin, fin_eq N V f n d (q + 1), restL, List.append_assoc]
section
variable {N V : List ByteArray} {f n : Nat}
theorem lineOf_len (q : Nat) (h : (nameOf N q).length ≤ 10) : (lineOf N V f n q).length = n + 11 := by
  unfold lineOf
  simp only [List.length_append, List.length_replicate, cells_len, List.length_cons, List.length_nil]
  omega
theorem line_get (q : Nat) (h : (nameOf N q).length ≤ 10) (i : Nat) (hi : i < n + 11) : (lineOf N V f n q)[i]? = if i < 10 then (if i < (nameOf N q).length then (nameOf N q)[i]? else some 32) else if i < 10 + n then some (cell (nameOf V q) (f + (i - 10))) else some 10 := by
  unfold lineOf
  have l1 : (nameOf N q ++ List.replicate (10 - (nameOf N q).length) 32).length = 10 := by simp; omega
  have l2 : (nameOf N q ++ List.replicate (10 - (nameOf N q).length) 32 ++ cells (nameOf V q) f n).length = 10 + n := by rw [List.length_append, l1, cells_len]
  rw [List.getElem?_append, l2]
  by_cases c : i < 10
  · rw [if_pos (by omega), if_pos c, List.getElem?_append, l1, if_pos c, List.getElem?_append]
    by_cases c2 : i < (nameOf N q).length
    · rw [if_pos c2, if_pos c2]
    · rw [if_neg c2, if_neg c2, List.getElem?_replicate, if_pos (by omega)]
  · rw [if_neg c]
    by_cases c2 : i < 10 + n
    · rw [if_pos c2, if_pos c2, List.getElem?_append, l1, if_neg c, cells_get _ _ _ _ (by omega)]
    · rw [if_neg c2, if_neg c2, show i - (10 + n) = 0 by omega]; rfl
theorem restL_len (hn : ∀ q, q < N.length → (nameOf N q).length ≤ 10) : ∀ (d q : Nat), q + d ≤ N.length → (restL N V f n d q).length = (n + 11) * d
  | 0, q, h => rfl
  | d + 1, q, h => by
    rw [restL, List.length_append, lineOf_len q (hn q (by omega)), restL_len hn d (q + 1) (by omega), Nat.mul_succ]; omega
theorem restL_drop (hn : ∀ q, q < N.length → (nameOf N q).length ≤ 10) : ∀ (j d q : Nat), q + d ≤ N.length → j ≤ d → (restL N V f n d q).drop ((n + 11) * j) = restL N V f n (d - j) (q + j)
  | 0, d, q, h, hj => by rw [Nat.mul_zero, List.drop_zero]; rfl
  | j + 1, 0, q, h, hj => absurd hj (by omega)
  | j + 1, d + 1, q, h, hj => by
    rw [restL, Nat.mul_succ, Nat.add_comm, ← List.drop_drop, List.drop_left' (lineOf_len q (hn q (by omega))), restL_drop hn j d (q + 1) (by omega) (by omega)]
    congr 1 <;> omega
theorem bt_get' (s : ByteArray) (i : Nat) (b : UInt8) (h : s.data.toList[i]? = some b) : i < s.size ∧ bt s (i : Int) = (b.toNat : Int) := by
  obtain ⟨hl, he⟩ := List.getElem?_eq_some_iff.1 h
  have hs : i < s.size := by simpa using hl
  exact ⟨hs, by rw [bt_bs s i hs, he]⟩
end
section
variable {N V : List ByteArray} {f n : Nat} (hv : VS N V) (hf : f < 30) (hn : n ≤ 40) (T : ByteArray)
include hv hf hn
theorem ev_p2 (q : Nat) (hq : q < N.length) (hnm : (nameOf N q).length ≤ 10) (row : ByteArray) (hrow : ∀ i, i < n + 11 → row.data.toList[i]? = (lineOf N V f n q)[i]?) (hz : Ev (fun k => laws_FnPictures.l0 k (f : Int) (n : Int) T ((q + 1 : Nat) : Int) N V) true) :
    ∀ (d i : Nat), i + d = n → Ev (fun k => laws_FnPictures.l2 k (f : Int) (n : Int) T (q : Int) row (i : Int) N V) true
  | 0, i, hi => by
    obtain ⟨z1, z2⟩ := bt_get' row (10 + n) 10 (by rw [hrow _ (by omega), line_get q hnm _ (by omega), if_neg (by omega), if_neg (by omega)])
    have z2 : bt row ((10 + n : Nat) : Int) = 10 := z2
    refine Ev.step (fun k => ?_) hz
    have e1 : wrap64 (10 + (n : Int)) = ((10 + n : Nat) : Int) := by rw [w64' (by omega) (by omega)]; omega
    have e2 : wrap64 ((q : Int) + 1) = ((q + 1 : Nat) : Int) := by rw [w64' (by omega) (by have := hv.six; omega)]; omega
    simp only [laws_FnPictures.l2]
    rw [if_neg (by omega), e1, if_pos (by omega), if_pos (by omega), z2, if_pos rfl, e2]
  | d + 1, i, hi => by
    have ih := ev_p2 q hq hnm row hrow hz d (i + 1) (by omega)
    have hl := hv.len
    obtain ⟨j, hj⟩ : ∃ j, 10 + i = j := ⟨_, rfl⟩
    have hji : j - 10 = i := by omega
    have hline := hrow j (by omega)
    rw [line_get q hnm j (by omega), if_neg (by omega), if_pos (by omega), hji] at hline
    rw [← hj] at hline
    obtain ⟨z1, z2⟩ := bt_get' row (10 + i) _ hline
    have d1 : (i : Int) < (n : Int) := by omega
    have d2 : (0 : Int) ≤ (q : Int) := by omega
    have d3 : (q : Int) < (V.length : Int) := by omega
    have d4 : (0 : Int) ≤ ((f + i : Nat) : Int) := by omega
    have d5 : (0 : Int) ≤ ((10 + i : Nat) : Int) := by omega
    have d6 : ((10 + i : Nat) : Int) < (row.size : Int) := by omega
    have d7 : q < V.length := by omega
    have e1 : wrap64 ((f : Int) + (i : Int)) = ((f + i : Nat) : Int) := by rw [w64' (by omega) (by omega)]; omega
    have E1 := Aside0.mk e1
    clear e1
    have e2 : wrap64 (10 + (i : Int)) = ((10 + i : Nat) : Int) := by rw [w64' (by omega) (by omega)]; omega
    have E2 := Aside0.mk e2
    clear e2
    have e3 : wrap64 ((i : Int) + 1) = ((i + 1 : Nat) : Int) := by rw [w64' (by omega) (by omega)]; omega
    have E3 := Aside0.mk e3
    clear e3
    refine Ev.step (fun k => ?_) ih
    simp only [laws_FnPictures.l2]
    rw [if_pos d1, if_pos d2, if_pos d3, E1.out]
    obtain ⟨w, hw⟩ : ∃ w, rdOf ByteArray.empty V (q : Int) = w := ⟨_, rfl⟩
    have hwm : w ∈ V := by rw [← hw]; simp only [rdOf, Int.toNat_natCast, List.getD_eq_getElem?_getD, List.getElem?_eq_getElem d7, Option.getD_some]; exact List.getElem_mem _
    have hcell : nameOf V q = w.data.toList := by unfold nameOf; rw [hw]
    rw [hw]
    rw [hcell] at z2
    by_cases c : f + i < w.size
    · have hwv := hv.wv w hwm
      unfold waveB at hwv
      rw [Bool.and_eq_true] at hwv
      have hb := List.all_eq_true.1 hwv.1 (w.data.toList[f + i]'(by simpa using c)) (List.getElem_mem _)
      have hb := of_decide_eq_true hb
      have hbt := bt_bs w (f + i) c
      have hc := cell_in w (f + i) c
      have d8 : ((f + i : Nat) : Int) < (w.size : Int) := by omega
      rw [if_pos d8, if_pos d4, E2.out, E3.out]
      rw [hc] at z2
      rcases hb with hb | hb
      · rw [hb] at hbt
        rw [hbt, if_neg (by decide)] at z2
        have z2 : bt row ((10 + i : Nat) : Int) = 95 := z2
        rw [hbt, show (((48 : Nat) : Int) - 48) % 256 = 0 from rfl, if_pos (by decide), if_pos (by decide), if_pos d5, if_pos d6, z2, show bt (⟨#[95, 35]⟩ : ByteArray) 0 = 95 from rfl, if_pos rfl]
      · rw [hb] at hbt
        rw [hbt, if_pos (by decide)] at z2
        have z2 : bt row ((10 + i : Nat) : Int) = 35 := z2
        rw [hbt, show (((49 : Nat) : Int) - 48) % 256 = 1 from rfl, if_pos (by decide), if_pos (by decide), if_pos d5, if_pos d6, z2, show bt (⟨#[95, 35]⟩ : ByteArray) 1 = 35 from rfl, if_pos rfl]
    · rw [cell_out _ _ (by simpa using c)] at z2
      have z2 : bt row ((10 + i : Nat) : Int) = 32 := z2
      have d8 : ¬ ((f + i : Nat) : Int) < (w.size : Int) := by omega
      rw [if_neg d8, E2.out, E3.out, if_pos d5, if_pos d6, z2, if_pos rfl]
theorem ev_p1 (q : Nat) (hq : q < N.length) (hnm : (nameOf N q).length ≤ 10) (row : ByteArray) (hrow : ∀ i, i < n + 11 → row.data.toList[i]? = (lineOf N V f n q)[i]?) (hz : Ev (fun k => laws_FnPictures.l0 k (f : Int) (n : Int) T ((q + 1 : Nat) : Int) N V) true) :
    ∀ (d i : Nat), i + d = 10 → Ev (fun k => laws_FnPictures.l1 k (f : Int) (n : Int) T (q : Int) row (i : Int) N V) true
  | 0, i, hi => by
    refine Ev.step (fun k => ?_) (ev_p2 hv hf hn T q hq hnm row hrow hz n 0 (by omega))
    simp only [laws_FnPictures.l1]
    rw [if_neg (by omega)]; rfl
  | d + 1, i, hi => by
    have ih := ev_p1 q hq hnm row hrow hz d (i + 1) (by omega)
    have e3 : wrap64 ((i : Int) + 1) = ((i + 1 : Nat) : Int) := by rw [w64' (by omega) (by omega)]; omega
    have hline := hrow i (by omega)
    rw [line_get q hnm _ (by omega), if_pos (by omega)] at hline
    refine Ev.step (fun k => ?_) ih
    simp only [laws_FnPictures.l1]
    rw [if_pos (by omega), if_pos (by omega), if_pos (by omega), e3]
    obtain ⟨w, hw⟩ : ∃ w, rdOf ByteArray.empty N (q : Int) = w := ⟨_, rfl⟩
    have hcell : nameOf N q = w.data.toList := by unfold nameOf; rw [hw]
    rw [hw]
    rw [hcell] at hline
    have hws : w.data.toList.length = w.size := by simp
    by_cases c : i < w.size
    · rw [if_pos (by omega), List.getElem?_eq_getElem (l := w.data.toList) (by omega)] at hline
      obtain ⟨z1, z2⟩ := bt_get' row i _ hline
      rw [if_pos (by omega), if_pos (by omega), if_pos (by omega), z2, bt_bs w i c, if_pos rfl]
    · rw [if_neg (by omega)] at hline
      obtain ⟨z1, z2⟩ := bt_get' row i _ hline
      have z2 : bt row (i : Int) = 32 := z2
      rw [if_neg (by omega), if_pos (by omega), if_pos (by omega), z2, if_pos rfl]
theorem ev_p0 (hT : T = bs (restL N V f n N.length 0)) (hnm : ∀ q, q < N.length → (nameOf N q).length ≤ 10) : ∀ (d q : Nat), q + d = N.length → Ev (fun k => laws_FnPictures.l0 k (f : Int) (n : Int) T (q : Int) N V) true
  | 0, q, hq => by
    refine Ev.step (f := fun _ => some true) (fun k => ?_) (Ev.now _)
    simp only [laws_FnPictures.l0]
    rw [if_neg (by omega)]
  | d + 1, q, hq => by
    have ih := ev_p0 hT hnm d (q + 1) (by omega)
    have h6 := hv.six
    have hlen : T.size = (n + 11) * N.length := by rw [hT, bs_size, restL_len hnm _ _ (by omega)]
    have e1 : wrap64 ((n : Int) + 11) = ((n + 11 : Nat) : Int) := by rw [w64' (by omega) (by omega)]; omega
    have hm : (n + 11) * q ≤ (n + 11) * N.length := Nat.mul_le_mul_left _ (by omega)
    have hm2 : (n + 11) * N.length ≤ 51 * 6 := Nat.mul_le_mul (by omega) h6
    have e2 : wrap64 (((n + 11 : Nat) : Int) * (q : Int)) = (((n + 11) * q : Nat) : Int) := by rw [← Int.natCast_mul, w64' (by omega) (by omega)]
    refine Ev.step (fun k => ?_) (ev_p1 hv hf hn T q (by omega) (hnm q (by omega)) (T.extract ((n + 11) * q) T.size) ?_ ih 10 0 (by omega))
    · simp only [laws_FnPictures.l0]
      rw [if_pos (by omega), e1, e2, if_pos (by omega), if_pos (by omega), Int.toNat_natCast]; rfl
    · intro i hi
      rw [hT, bs_ex]
      show (List.take _ (List.drop ((n + 11) * q) (restL N V f n N.length 0)))[i]? = _
      rw [List.take_of_length_le (by rw [List.length_drop, bs_size]; omega), restL_drop hnm q N.length 0 (by omega) (by omega), Nat.zero_add, show N.length - q = (N.length - q - 1) + 1 by omega, restL, List.getElem?_append, lineOf_len q (hnm q (by omega)), if_pos hi]
end
theorem FnPictures : laws_FnPictures.Pure := by
  intro x0 x1 w0 w1
  refine Ev.rounds ?_
  show Ev (fun k => laws_FnPictures.f k x0 x1) true
  unfold laws_FnPictures.f
  obtain ⟨t, ht, hlen⟩ := long_eq x0 x1
  simp only [ht, Option.bind_some]
  cases t
  · simp only [Bool.false_eq_true, if_false]
    have u0 : U8 x0 := w0.2
    have u1 : U8 x1 := w1.2
    obtain ⟨N, V, hv, hs⟩ := b10Scope u0
    obtain ⟨a, ha, a0, a1⟩ := b10At_eq u1 0 30 (by omega) (by omega)
    obtain ⟨m, hm, m0, m1⟩ := b10At_eq u1 1 40 (by omega) (by omega)
    obtain ⟨f, rfl⟩ := Int.eq_ofNat_of_zero_le a0
    obtain ⟨m, rfl⟩ := Int.eq_ofNat_of_zero_le m0
    have e1 : wrap64 (1 + (m : Int)) = ((1 + m : Nat) : Int) := by rw [w64' (by omega) (by omega)]; omega
    refine Ev.bind hs ?_
    simp only [ha, hm, Option.bind_some, e1]
    have h6 := hv.six
    have hl := hv.len
    have hsz : ∀ s ∈ N, s.size ≤ 1048576 := fun s h => by
      have := hv.nm s h
      unfold nameB at this
      rw [Bool.and_eq_true] at this
      have := of_decide_eq_true this.2
      omega
    have hsv : ∀ s ∈ V, s.size ≤ 1048576 := fun s h => by
      have := hv.wv s h
      unfold waveB at this
      rw [Bool.and_eq_true] at this
      have := of_decide_eq_true this.2
      omega
    have hi := ev_implPic N V (f : Int) ((1 + m : Nat) : Int) (by omega) (by omega) hsz hsv
    obtain ⟨-, -, hnm⟩ := scope_has hv.scope
    have hR : picR N V (f : Int) ((1 + m : Nat) : Int) = (bs (restL N V f (1 + m) N.length 0), true) := by
      unfold picR
      rw [if_pos ⟨hv.scope, ⟨by omega, by omega⟩, by omega, by omega⟩, Int.toNat_natCast, Int.toNat_natCast, fin_eq]; rfl
    rw [hR] at hi
    refine Ev.bind hi ?_
    simp only [if_true]
    have hlen2 : (bs (restL N V f (1 + m) N.length 0)).size = (1 + m + 11) * N.length := by rw [bs_size, restL_len hnm _ _ (by omega)]
    have hm2 : (1 + m + 11) * N.length ≤ 51 * 6 := Nat.mul_le_mul (by omega) h6
    have e2 : wrap64 (((1 + m : Nat) : Int) + 11) = ((1 + m + 11 : Nat) : Int) := by rw [w64' (by omega) (by omega)]; omega
    have e3 : wrap64 (((1 + m + 11 : Nat) : Int) * (N.length : Int)) = (((1 + m + 11) * N.length : Nat) : Int) := by rw [← Int.natCast_mul, w64' (by omega) (by omega)]
    rw [e2, e3, hlen2]
    refine Ev.step (fun k => ?_) (ev_p0 (f := f) (n := 1 + m) hv (by omega) (by omega) _ rfl hnm N.length 0 (by omega))
    simp only [laws_FnPictures.j0]
    rw [bne_self_eq_false, if_neg (by decide)]; rfl
  · simp only [if_true]; exact Ev.now _
end Go.Proofs.YtjpjlobpglmoiaaDoor.Pure
