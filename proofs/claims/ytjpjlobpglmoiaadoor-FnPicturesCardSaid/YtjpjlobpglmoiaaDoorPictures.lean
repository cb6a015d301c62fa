/- Pictures of the program and of the reference: the same text. No conditions. -/
import Derived.Test.YtjpjlobpglmoiaaDoorA27
import Derived.Test.YtjpjlobpglmoiaaDoorA28
import Derived.Test.YtjpjlobpglmoiaaDoorQ23
import Derived.Test.YtjpjlobpglmoiaaDoorQ24
namespace Go.Proofs.YtjpjlobpglmoiaaDoor.Pure
set_option linter.unusedVariables false
set_option linter.unusedSimpArgs false
set_option linter.unusedSectionVars false
open Go.RowKit Go.Proofs.YtjpjlobpglmoiaaDoor.A Go.Proofs.YtjpjlobpglmoiaaDoorW.PrintWords Go.Proofs.YtjpjlobpglmoiaaDoorW.PrintLast Go.Proofs.YtjpjlobpglmoiaaDoorW.PrintMore
def bs (l : List UInt8) : ByteArray := ⟨l.toArray⟩
def nums (l : List UInt8) : List Int := l.map fun b => (b.toNat : Int)
theorem bs_size (l : List UInt8) : (bs l).size = l.length := rfl
theorem nums_len (l : List UInt8) : (nums l).length = l.length := by simp [nums]
theorem nums_app (a b : List UInt8) : nums a ++ nums b = nums (a ++ b) := by simp [nums]
theorem bs_app (a b : List UInt8) : bs a ++ bs b = bs (a ++ b) := by simp [bs, ByteArray.ext_iff]
theorem bs_of (s : ByteArray) : bs s.data.toList = s := Lib.mk_data s
theorem str_nums (l : List UInt8) : strOfNums (nums l) = bs l := by
  unfold strOfNums nums bs
  rw [List.map_map]
  congr 1
  congr 1
  conv => rhs; rw [← List.map_id l]
  apply List.map_congr_left
  intro b _
  simp
theorem rep32 : ∀ n, Lib.repeatL [32] n = List.replicate n 32
  | 0 => rfl
  | n + 1 => by rw [Lib.repeatL, rep32 n]; rfl
/-- A level at a tick, as it is drawn. -/
def cell (w : List UInt8) (i : Nat) : UInt8 := match w[i]? with
  | none => 32
  | some b => if (b.toNat : Int) = 49 then 35 else 95
def cells (w : List UInt8) : Nat → Nat → List UInt8
  | _, 0 => []
  | i, d + 1 => cell w i :: cells w (i + 1) d
theorem cells_len (w : List UInt8) : ∀ (d i : Nat), (cells w i d).length = d
  | 0, _ => rfl
  | d + 1, i => by rw [cells, List.length_cons, cells_len w d (i + 1)]
def nameOf (L : List ByteArray) (q : Nat) : List UInt8 := (rdOf ByteArray.empty L (q : Int)).data.toList
def lineOf (L0 L1 : List ByteArray) (f n q : Nat) : List UInt8 := nameOf L0 q ++ List.replicate (10 - (nameOf L0 q).length) 32 ++ cells (nameOf L1 q) f n ++ [10]
def fin (L0 L1 : List ByteArray) (f n : Nat) : Nat → Nat → List UInt8 → List UInt8
  | 0, _, o => o
  | d + 1, q, o => fin L0 L1 f n d (q + 1) (o ++ lineOf L0 L1 f n q)
theorem cell_out (w : List UInt8) (i : Nat) (h : ¬ i < w.length) : cell w i = 32 := by
  unfold cell; rw [List.getElem?_eq_none (by omega)]
theorem bt_bs (s : ByteArray) (i : Nat) (h : i < s.size) : bt s (i : Int) = ((s.data.toList[i]'(by simpa using h)).toNat : Int) := by
  unfold bt
  rw [Int.toNat_natCast, dif_pos h]
  rfl
theorem cell_in (s : ByteArray) (i : Nat) (h : i < s.size) : cell s.data.toList i = if bt s (i : Int) = 49 then 35 else 95 := by
  rw [bt_bs s i h]
  unfold cell
  rw [List.getElem?_eq_getElem (by simpa using h)]
section
variable (L0 L1 : List ByteArray) (f n : Nat) (hf : f ≤ 400) (hn : n ≤ 100) (h6 : L0.length ≤ 6) (hl : L1.length = L0.length)
include hf hn h6 hl
theorem ev_s2 (q : Nat) (hq : q < L0.length) (R : ByteArray × Bool) : ∀ (d i : Nat) (o : List UInt8), i + d = f + n → o.length + d ≤ 100000 →
    Ev (fun k => spec_PictureOf.l0 k (f : Int) (n : Int) (nums (o ++ cells (nameOf L1 q) i d ++ [10])) ((q + 1 : Nat) : Int) L0 L1) R → Ev (fun k => spec_PictureOf.l2 k (f : Int) (n : Int) (nums o) (q : Int) (i : Int) L0 L1) R
  | 0, i, o, hi, ho, h => by
    rw [cells, List.append_nil, ← nums_app] at h
    refine Ev.step (f := fun k => spec_PictureOf.l0 k (f : Int) (n : Int) (nums o ++ [10]) ((q + 1 : Nat) : Int) L0 L1) (fun k => ?_) h
    simp only [spec_PictureOf.l2]
    rw [w64' (x := (f : Int) + (n : Int)) (by omega) (by omega), if_neg (by omega), nums_len, if_pos (by omega), show wrap64 ((q : Int) + 1) = ((q + 1 : Nat) : Int) by rw [w64' (by omega) (by omega)]; rfl]
  | d + 1, i, o, hi, ho, h => by
    have hc : o ++ cells (nameOf L1 q) i (d + 1) ++ [10] = (o ++ [cell (nameOf L1 q) i]) ++ cells (nameOf L1 q) (i + 1) d ++ [10] := by simp [cells]
    rw [hc] at h
    have ih := ev_s2 q hq R d (i + 1) (o ++ [cell (nameOf L1 q) i]) (by omega) (by simp; omega) h
    rw [← nums_app] at ih
    · refine Ev.step (f := fun k => spec_PictureOf.l2 k (f : Int) (n : Int) (nums o ++ nums [cell (nameOf L1 q) i]) (q : Int) ((i + 1 : Nat) : Int) L0 L1) (fun k => ?_) ih
      simp only [spec_PictureOf.l2]
      rw [w64' (x := (f : Int) + (n : Int)) (by omega) (by omega), if_pos (by omega), if_pos (by omega), if_pos (by omega), nums_len, show wrap64 ((i : Int) + 1) = ((i + 1 : Nat) : Int) by rw [w64' (by omega) (by omega)]; rfl]
      by_cases c : i < (rdOf ByteArray.empty L1 (q : Int)).size
      · rw [if_pos (by omega), if_pos (by omega), nameOf, cell_in _ i c]
        by_cases c2 : bt (rdOf ByteArray.empty L1 (q : Int)) (i : Int) = 49
        · rw [if_pos c2, if_pos c2, if_pos (by omega)]; rfl
        · rw [if_neg c2, if_neg c2, if_pos (by omega)]; rfl
      · rw [if_neg (by omega), if_pos (by omega), nameOf, cell_out _ i (by simpa using c)]; rfl
theorem ev_s1 (q : Nat) (R : ByteArray × Bool) : ∀ (d j : Nat) (o : List UInt8), j + d = 10 → o.length + d ≤ 100000 →
    Ev (fun k => spec_PictureOf.l2 k (f : Int) (n : Int) (nums (o ++ List.replicate d 32)) (q : Int) (f : Int) L0 L1) R → Ev (fun k => spec_PictureOf.l1 k (f : Int) (n : Int) (nums o) (q : Int) (j : Int) L0 L1) R
  | 0, j, o, hj, ho, h => by
    rw [List.replicate_zero, List.append_nil] at h
    refine Ev.step (f := fun k => spec_PictureOf.l2 k (f : Int) (n : Int) (nums o) (q : Int) (f : Int) L0 L1) (fun k => ?_) h
    simp only [spec_PictureOf.l1]
    rw [if_neg (by omega)]
  | d + 1, j, o, hj, ho, h => by
    rw [show o ++ List.replicate (d + 1) 32 = (o ++ [32]) ++ List.replicate d 32 by simp [List.replicate_succ]] at h
    have ih := ev_s1 q R d (j + 1) (o ++ [32]) (by omega) (by simp; omega) h
    rw [← nums_app] at ih
    refine Ev.step (f := fun k => spec_PictureOf.l1 k (f : Int) (n : Int) (nums o ++ nums [32]) (q : Int) ((j + 1 : Nat) : Int) L0 L1) (fun k => ?_) ih
    simp only [spec_PictureOf.l1]
    rw [if_pos (by omega), nums_len, if_pos (by omega), show wrap64 ((j : Int) + 1) = ((j + 1 : Nat) : Int) by rw [w64' (by omega) (by omega)]; rfl]
    rfl
theorem line_len (q : Nat) (hq : (nameOf L0 q).length ≤ 10) : (lineOf L0 L1 f n q).length ≤ 200 := by
  unfold lineOf
  simp only [List.length_append, List.length_replicate, cells_len, List.length_cons, List.length_nil]
  omega
theorem ev_s0 (hnm : ∀ q, q < L0.length → (nameOf L0 q).length ≤ 10) : ∀ (d q : Nat) (o : List UInt8), q + d = L0.length → o.length ≤ 200 * q →
    Ev (fun k => spec_PictureOf.l0 k (f : Int) (n : Int) (nums o) (q : Int) L0 L1) (bs (fin L0 L1 f n d q o), true)
  | 0, q, o, hq, ho => by
    refine Ev.step (f := fun _ => some (strOfNums (nums o), true)) (fun k => ?_) ?_
    · simp only [spec_PictureOf.l0]
      rw [if_neg (by omega)]
    · rw [str_nums]; exact Ev.now _
  | d + 1, q, o, hq, ho => by
    have hz := hnm q (by omega)
    have hll := line_len L0 L1 f n hf hn h6 hl q hz
    have ih := ev_s0 hnm d (q + 1) (o ++ lineOf L0 L1 f n q) (by omega) (by rw [List.length_append]; omega)
    have hsz : (rdOf ByteArray.empty L0 (q : Int)).size = (nameOf L0 q).length := by unfold nameOf; simp
    have hby : bytesOf (rdOf ByteArray.empty L0 (q : Int)) = nums (nameOf L0 q) := rfl
    have h2 := ev_s2 L0 L1 f n hf hn h6 hl q (by omega) _ n f (o ++ nameOf L0 q ++ List.replicate (10 - (nameOf L0 q).length) 32) rfl (by simp only [List.length_append, List.length_replicate]; omega) (by
      rw [show o ++ nameOf L0 q ++ List.replicate (10 - (nameOf L0 q).length) 32 ++ cells (nameOf L1 q) f n ++ [10] = o ++ lineOf L0 L1 f n q by simp [lineOf]]; exact ih)
    have h1 := ev_s1 L0 L1 f n hf hn h6 hl q _ (10 - (nameOf L0 q).length) (nameOf L0 q).length (o ++ nameOf L0 q) (by omega) (by simp only [List.length_append]; omega) h2
    rw [← nums_app] at h1
    refine Ev.step (f := fun k => spec_PictureOf.l1 k (f : Int) (n : Int) (nums o ++ nums (nameOf L0 q)) (q : Int) ((nameOf L0 q).length : Int) L0 L1) (fun k => ?_) h1
    simp only [spec_PictureOf.l0]
    rw [if_pos (by omega), if_pos (by omega), hby, nums_len, hsz, if_pos (by omega)]
theorem ev_i1 (q : Nat) (hq : q < L0.length) (R : ByteArray × Bool) : ∀ (d i : Nat) (o : List UInt8), i + d = f + n → o.length + d ≤ 100000 →
    Ev (fun k => impl_PictureOf.l0 k (f : Int) (n : Int) (bs (o ++ cells (nameOf L1 q) i d ++ [10])) L0 (L0.length : Int) ((q + 1 : Nat) : Int) L0 L1) R → Ev (fun k => impl_PictureOf.l1 k (f : Int) (n : Int) (bs o) (q : Int) (i : Int) L0 (L0.length : Int) (q : Int) L0 L1) R
  | 0, i, o, hi, ho, h => by
    rw [cells, List.append_nil, ← bs_app] at h
    refine Ev.step (f := fun k => impl_PictureOf.l0 k (f : Int) (n : Int) (bs o ++ bs [10]) L0 (L0.length : Int) ((q + 1 : Nat) : Int) L0 L1) (fun k => ?_) h
    simp only [impl_PictureOf.l1]
    rw [w64' (x := (f : Int) + (n : Int)) (by omega) (by omega), if_neg (by omega), bs_size, if_pos (by omega), show wrap64 ((q : Int) + 1) = ((q + 1 : Nat) : Int) by rw [w64' (by omega) (by omega)]; rfl]
    rfl
  | d + 1, i, o, hi, ho, h => by
    have hc : o ++ cells (nameOf L1 q) i (d + 1) ++ [10] = (o ++ [cell (nameOf L1 q) i]) ++ cells (nameOf L1 q) (i + 1) d ++ [10] := by simp [cells]
    rw [hc] at h
    have ih := ev_i1 q hq R d (i + 1) (o ++ [cell (nameOf L1 q) i]) (by omega) (by simp; omega) h
    rw [← bs_app] at ih
    refine Ev.step (f := fun k => impl_PictureOf.l1 k (f : Int) (n : Int) (bs o ++ bs [cell (nameOf L1 q) i]) (q : Int) ((i + 1 : Nat) : Int) L0 (L0.length : Int) (q : Int) L0 L1) (fun k => ?_) ih
    simp only [impl_PictureOf.l1]
    rw [w64' (x := (f : Int) + (n : Int)) (by omega) (by omega), if_pos (by omega), if_pos (by omega), if_pos (by omega), bs_size, show wrap64 ((i : Int) + 1) = ((i + 1 : Nat) : Int) by rw [w64' (by omega) (by omega)]; rfl]
    by_cases c : i < (rdOf ByteArray.empty L1 (q : Int)).size
    · rw [if_neg (by omega), if_pos (by omega), if_pos (by omega), nameOf, cell_in _ i c]
      by_cases c2 : bt (rdOf ByteArray.empty L1 (q : Int)) (i : Int) = 49
      · rw [if_pos c2, if_pos c2, if_pos (by omega)]; rfl
      · rw [if_neg c2, if_neg c2, if_pos (by omega)]; rfl
    · rw [if_pos (by omega), if_pos (by omega), nameOf, cell_out _ i (by simpa using c)]; rfl
theorem ev_i0 (hnm : ∀ q, q < L0.length → (nameOf L0 q).length ≤ 10) : ∀ (d q : Nat) (o : List UInt8), q + d = L0.length → o.length ≤ 200 * q →
    Ev (fun k => impl_PictureOf.l0 k (f : Int) (n : Int) (bs o) L0 (L0.length : Int) (q : Int) L0 L1) (bs (fin L0 L1 f n d q o), true)
  | 0, q, o, hq, ho => by
    refine Ev.step (f := fun _ => some (bs o, true)) (fun k => ?_) (Ev.now _)
    simp only [impl_PictureOf.l0]
    rw [if_neg (by omega)]
  | d + 1, q, o, hq, ho => by
    have hz := hnm q (by omega)
    have hll := line_len L0 L1 f n hf hn h6 hl q hz
    have ih := ev_i0 hnm d (q + 1) (o ++ lineOf L0 L1 f n q) (by omega) (by rw [List.length_append]; omega)
    obtain ⟨N, hN⟩ : ∃ N, nameOf L0 q = N := ⟨_, rfl⟩
    have hbsN : rdOf ByteArray.empty L0 (q : Int) = bs N := by rw [← hN]; exact (bs_of _).symm
    have hlin : lineOf L0 L1 f n q = N ++ List.replicate (10 - N.length) 32 ++ cells (nameOf L1 q) f n ++ [10] := by unfold lineOf; rw [hN]
    rw [hN] at hz
    have h2 := ev_i1 L0 L1 f n hf hn h6 hl q (by omega) _ n f (o ++ (N ++ List.replicate (10 - N.length) 32)) rfl (by simp only [List.length_append, List.length_replicate]; omega) (by
      rw [show o ++ (N ++ List.replicate (10 - N.length) 32) ++ cells (nameOf L1 q) f n ++ [10] = o ++ lineOf L0 L1 f n q by rw [hlin]; simp]; exact ih)
    rw [← bs_app, ← bs_app] at h2
    refine Ev.step (f := fun k => impl_PictureOf.l1 k (f : Int) (n : Int) (bs o ++ (bs N ++ bs (List.replicate (10 - N.length) 32))) (q : Int) (f : Int) L0 (L0.length : Int) (q : Int) L0 L1) (fun k => ?_) h2
    have hrep : strings_Repeat.f (⟨#[32]⟩ : ByteArray) (wrap64 (10 - (N.length : Int))) = some (bs (List.replicate (10 - N.length) 32)) := by
      rw [w64' (by omega) (by omega)]
      unfold strings_Repeat.f
      rw [if_pos ⟨by omega, by omega, by show (1 : Nat) ≤ 1048576; omega⟩, show (10 - (N.length : Int)).toNat = 10 - N.length by omega]
      rw [show (⟨#[32]⟩ : ByteArray).data.toList = [32] from rfl, rep32]; rfl
    simp only [impl_PictureOf.l0]
    rw [if_pos (by omega), if_pos (by omega), if_pos (by omega), hbsN, bs_size, hrep, Option.bind_some, bs_size, bs_size, if_pos (by simp; omega), bs_app, bs_size, if_pos (by simp; omega)]
end
/-- What both return. -/
def picR (L0 L1 : List ByteArray) (a b : Int) : ByteArray × Bool := if scopeB L0 L1 = true ∧ (0 ≤ a ∧ a ≤ 400) ∧ (1 ≤ b ∧ b ≤ 100) then (bs (fin L0 L1 a.toNat b.toNat L0.length 0 []), true) else (⟨#[]⟩, false)
theorem scope_has {L0 L1 : List ByteArray} (h : scopeB L0 L1 = true) : L0.length ≤ 6 ∧ L1.length = L0.length ∧ ∀ q, q < L0.length → (nameOf L0 q).length ≤ 10 := by
  unfold scopeB at h
  rw [Bool.and_eq_true] at h
  have h1 := of_decide_eq_true h.1
  refine ⟨h1.1, h1.2, fun q hq => ?_⟩
  have h2 := List.all_eq_true.1 h.2 q (List.mem_range.2 hq)
  unfold atB nameB at h2
  simp only [Bool.and_eq_true] at h2
  have h3 := of_decide_eq_true h2.1.1.2
  have e : nameOf L0 q = (L0.getD q ByteArray.empty).data.toList := by unfold nameOf; simp [rdOf]
  rw [e]
  simpa using h3.2
theorem in_is (a b c : Int) : spec_l00In.f a b c = some (decide (b ≤ a ∧ a ≤ c)) := by
  unfold spec_l00In.f
  by_cases h : a ≥ b
  · rw [if_pos h]; have h' : b ≤ a := h; simp [h']
  · rw [if_neg h]; have h' : ¬ b ≤ a := h; simp [h']
theorem within_is' (a b c : Int) : impl_within.f a b c = some (decide (b ≤ a ∧ a ≤ c)) := by
  unfold impl_within.f
  by_cases h : a ≥ b
  · rw [if_pos h]; have h' : b ≤ a := h; simp [h']
  · rw [if_neg h]; have h' : ¬ b ≤ a := h; simp [h']
theorem ticks_is (a : Int) : impl_isTicks.f a = some (decide (0 ≤ a ∧ a ≤ 400)) := by unfold impl_isTicks.f; rw [within_is']; rfl
theorem ev_specPic (L0 L1 : List ByteArray) (a b : Int) (hs0 : ∀ s ∈ L0, s.size ≤ 1048576) (hs1 : ∀ s ∈ L1, s.size ≤ 1048576) : Ev (fun k => spec_PictureOf.f k L0 L1 a b) (picR L0 L1 a b) := by
  unfold spec_PictureOf.f picR
  simp only [specScope L0 L1 hs0 hs1, Option.bind_some, in_is]
  cases h : scopeB L0 L1
  · rw [if_neg (by simp)]
    simp only [Bool.false_eq_true, if_false]
    exact Ev.step (f := fun _ => some (⟨#[]⟩, false)) (fun k => by simp only [spec_PictureOf.j0, if_true]) (Ev.now _)
  · simp only [if_true]
    by_cases ha : 0 ≤ a ∧ a ≤ 400
    · simp only [decide_eq_true ha, if_true]
      by_cases hb : 1 ≤ b ∧ b ≤ 100
      · rw [if_pos ⟨trivial, ha, hb⟩]
        simp only [decide_eq_true hb]
        obtain ⟨f, rfl⟩ : ∃ f : Nat, a = f := ⟨a.toNat, by omega⟩
        obtain ⟨n, rfl⟩ : ∃ n : Nat, b = n := ⟨b.toNat, by omega⟩
        obtain ⟨g1, g2, g3⟩ := scope_has h
        exact Ev.step (f := fun k => spec_PictureOf.l0 k (f : Int) (n : Int) (nums []) ((0 : Nat) : Int) L0 L1) (fun k => by simp only [spec_PictureOf.j0]; rfl) (ev_s0 L0 L1 f n (by omega) (by omega) g1 g2 g3 L0.length 0 [] (by omega) (Nat.zero_le _))
      · rw [if_neg (fun z => hb z.2.2)]
        simp only [decide_eq_false hb]
        exact Ev.step (f := fun _ => some (⟨#[]⟩, false)) (fun k => by simp only [spec_PictureOf.j0]; rfl) (Ev.now _)
    · rw [if_neg (fun z => ha z.2.1)]
      simp only [decide_eq_false ha, Bool.false_eq_true, if_false]
      exact Ev.step (f := fun _ => some (⟨#[]⟩, false)) (fun k => by simp only [spec_PictureOf.j0, if_true]) (Ev.now _)
theorem ev_implPic (L0 L1 : List ByteArray) (a b : Int) (h0 : L0.length ≤ 1048576) (h1 : L1.length ≤ 1048576) (hs0 : ∀ s ∈ L0, s.size ≤ 1048576) (hs1 : ∀ s ∈ L1, s.size ≤ 1048576) : Ev (fun k => impl_PictureOf.f k L0 L1 a b) (picR L0 L1 a b) := by
  unfold impl_PictureOf.f picR
  refine Ev.bind (ev_implScope L0 L1 h0 h1 hs0 hs1) ?_
  simp only [ticks_is, within_is', Option.bind_some]
  cases h : scopeB L0 L1
  · rw [if_neg (by simp)]
    simp only [Bool.false_eq_true, if_false]
    exact Ev.step (f := fun _ => some (⟨#[]⟩, false)) (fun k => by simp only [impl_PictureOf.j0, if_true]) (Ev.now _)
  · simp only [if_true]
    by_cases ha : 0 ≤ a ∧ a ≤ 400
    · simp only [decide_eq_true ha, if_true]
      by_cases hb : 1 ≤ b ∧ b ≤ 100
      · rw [if_pos ⟨trivial, ha, hb⟩]
        simp only [decide_eq_true hb]
        obtain ⟨f, rfl⟩ : ∃ f : Nat, a = f := ⟨a.toNat, by omega⟩
        obtain ⟨n, rfl⟩ : ∃ n : Nat, b = n := ⟨b.toNat, by omega⟩
        obtain ⟨g1, g2, g3⟩ := scope_has h
        exact Ev.step (f := fun k => impl_PictureOf.l0 k (f : Int) (n : Int) (bs []) L0 (L0.length : Int) ((0 : Nat) : Int) L0 L1) (fun k => by simp only [impl_PictureOf.j0]; rfl) (ev_i0 L0 L1 f n (by omega) (by omega) g1 g2 g3 L0.length 0 [] (by omega) (Nat.zero_le _))
      · rw [if_neg (fun z => hb z.2.2)]
        simp only [decide_eq_false hb]
        exact Ev.step (f := fun _ => some (⟨#[]⟩, false)) (fun k => by simp only [impl_PictureOf.j0]; rfl) (Ev.now _)
    · rw [if_neg (fun z => ha z.2.1)]
      simp only [decide_eq_false ha, Bool.false_eq_true, if_false]
      exact Ev.step (f := fun _ => some (⟨#[]⟩, false)) (fun k => by simp only [impl_PictureOf.j0, if_true]) (Ev.now _)
end Go.Proofs.YtjpjlobpglmoiaaDoor.Pure
