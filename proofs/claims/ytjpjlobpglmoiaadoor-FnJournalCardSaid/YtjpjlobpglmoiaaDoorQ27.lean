/- Texts of this claim, put together by this session's pack2.py: each part is introduced by its own comment. No conditions. -/
import Derived.Test.YtjpjlobpglmoiaaDoorA19
import Derived.Test.YtjpjlobpglmoiaaDoorQ23
import Derived.Test.YtjpjlobpglmoiaaDoorQ24
import Derived.Test.YtjpjlobpglmoiaaDoorJournals
/- The recovery of a journal, of the program and of the reference: the same lines. No conditions. -/
namespace Go.Proofs.YtjpjlobpglmoiaaDoor.Pure
set_option linter.unusedVariables false
set_option linter.unusedSimpArgs false
open Go.RowKit Go.Proofs.YtjpjlobpglmoiaaDoor.A Go.Proofs.YtjpjlobpglmoiaaDoorW.PrintWords Go.Proofs.YtjpjlobpglmoiaaDoorW.PrintLast Go.Proofs.YtjpjlobpglmoiaaDoorW.PrintMore
def mk (l : List UInt8) : ByteArray := ⟨l.toArray⟩
theorem mk_list (l : List UInt8) : (mk l).data.toList = l := rfl
theorem mk_size (l : List UInt8) : (mk l).size = l.length := rfl
theorem mk_of (t : ByteArray) : mk t.data.toList = t := Lib.mk_data t
theorem mk_ex (l : List UInt8) (a b : Nat) : (mk l).extract a b = mk ((l.drop a).take (b - a)) := by rw [Lib.extract_eq]; rfl
theorem mk_inj {a b : List UInt8} (h : mk a = mk b) : a = b := by rw [← mk_list a, h]; rfl
/-- What is ahead of the first byte c, and behind it. -/
def sp : List UInt8 → UInt8 → Option (List UInt8 × List UInt8)
  | [], _ => none
  | b :: l, c => if b = c then some ([], l) else (sp l c).map fun r => (b :: r.1, r.2)
theorem sp_none : ∀ {l : List UInt8} {c : UInt8}, sp l c = none → Lib.indexByte l c = -1
  | [], c, _ => rfl
  | b :: l, c, h => by
    unfold sp at h
    by_cases e : b = c
    · rw [if_pos e] at h; exact absurd h (by simp)
    · rw [if_neg e] at h
      have ih := sp_none (by simpa using h : sp l c = none)
      unfold Lib.indexByte
      rw [if_neg (by simpa using e), ih]; rfl
theorem sp_some : ∀ {l : List UInt8} {c : UInt8} {u v : List UInt8}, sp l c = some (u, v) → Lib.indexByte l c = u.length ∧ l = u ++ c :: v
  | [], c, u, v, h => by simp [sp] at h
  | b :: l, c, u, v, h => by
    unfold sp at h
    by_cases e : b = c
    · rw [if_pos e] at h
      simp only [Option.some.injEq, Prod.mk.injEq] at h
      obtain ⟨rfl, rfl⟩ := h
      subst e
      exact ⟨by unfold Lib.indexByte; rw [if_pos (by simp)]; rfl, rfl⟩
    · rw [if_neg e] at h
      obtain ⟨⟨u', v'⟩, hr, he⟩ := Option.map_eq_some_iff.1 h
      simp only [Prod.mk.injEq] at he
      obtain ⟨rfl, rfl⟩ := he
      obtain ⟨h1, h2⟩ := sp_some hr
      refine ⟨?_, by rw [h2]; rfl⟩
      unfold Lib.indexByte
      rw [if_neg (by simpa using e), h1, if_neg (by simp), List.length_cons]; omega
/-- The complete lines, and what is behind them. -/
def splitL : List UInt8 → List (List UInt8) × List UInt8
  | [] => ([], [])
  | b :: l => if b = 10 then ([] :: (splitL l).1, (splitL l).2) else match (splitL l).1 with
    | [] => ([], b :: (splitL l).2)
    | x :: xs => ((b :: x) :: xs, (splitL l).2)
theorem split_none : ∀ {l : List UInt8}, sp l 10 = none → splitL l = ([], l)
  | [], _ => rfl
  | b :: l, h => by
    unfold sp at h
    by_cases e : b = 10
    · rw [if_pos e] at h; exact absurd h (by simp)
    · rw [if_neg e] at h
      have ih := split_none (by simpa using h : sp l 10 = none)
      unfold splitL
      rw [if_neg e, ih]
theorem split_some : ∀ {l u v : List UInt8}, sp l 10 = some (u, v) → splitL l = (u :: (splitL v).1, (splitL v).2)
  | [], u, v, h => by simp [sp] at h
  | b :: l, u, v, h => by
    unfold sp at h
    by_cases e : b = 10
    · rw [if_pos e] at h
      simp only [Option.some.injEq, Prod.mk.injEq] at h
      obtain ⟨rfl, rfl⟩ := h
      conv => lhs; unfold splitL
      rw [if_pos e]
    · rw [if_neg e] at h
      obtain ⟨⟨u', v'⟩, hr, he⟩ := Option.map_eq_some_iff.1 h
      simp only [Prod.mk.injEq] at he
      obtain ⟨rfl, rfl⟩ := he
      have ih := split_some hr
      conv => lhs; unfold splitL
      rw [if_neg e, ih]
/-- Pieces whose first one goes on from bytes that were there. -/
def pre (cur : List UInt8) (s : List (List UInt8) × List UInt8) : List (List UInt8) := match s.1 with
  | [] => [cur ++ s.2]
  | x :: xs => (cur ++ x) :: (xs ++ [s.2])
theorem pre_nl (cur l : List UInt8) : pre cur (splitL (10 :: l)) = cur :: pre [] (splitL l) := by
  have e : splitL (10 :: l) = ([] :: (splitL l).1, (splitL l).2) := by
    conv => lhs; unfold splitL
    rw [if_pos rfl]
  rw [e]
  unfold pre
  simp only [List.append_nil]
  cases (splitL l).1 <;> simp
theorem pre_on (cur l : List UInt8) (b : UInt8) (hb : b ≠ 10) : pre cur (splitL (b :: l)) = pre (cur ++ [b]) (splitL l) := by
  conv => lhs; unfold splitL
  rw [if_neg hb]
  unfold pre
  cases h : (splitL l).1 <;> simp
theorem pre_nil (s : List (List UInt8) × List UInt8) : pre [] s = s.1 ++ [s.2] := by
  unfold pre; cases h : s.1 <;> simp
theorem split_len : ∀ (l : List UInt8), (splitL l).1.length ≤ l.length
  | [] => Nat.le_refl _
  | b :: l => by
    have ih := split_len l
    unfold splitL
    split
    · simp only [List.length_cons]; omega
    · split
      · simp
      · rename_i x xs h
        rw [h] at ih
        simp only [List.length_cons] at ih ⊢; omega
theorem ev_cut (t : ByteArray) (ht : t.size ≤ 1048576) : ∀ (d i a : Nat) (acc : List ByteArray), i + d = t.size → a ≤ i → acc.length ≤ i →
    Ev (fun k => spec_l01Cut.l0 k t 10 acc (a : Int) (i : Int)) (acc ++ (pre ((t.data.toList.drop a).take (i - a)) (splitL (t.data.toList.drop i))).map mk)
  | 0, i, a, acc, hi, ha, hacc => by
    have hl : t.data.toList.length = t.size := by simp
    rw [List.drop_of_length_le (i := i) (by omega)]
    have e : pre ((t.data.toList.drop a).take (i - a)) (splitL []) = [(t.data.toList.drop a).take (i - a)] := by simp [splitL, pre]
    rw [e]
    refine Ev.step (f := fun k => spec_l01Cut.l0 k t 10 (acc ++ [t.extract a i]) ((i + 1 : Nat) : Int) ((i + 1 : Nat) : Int)) (fun k => ?_) (Ev.step (f := fun _ => some (acc ++ [t.extract a i])) (fun k => ?_) ?_)
    · simp only [spec_l01Cut.l0]
      rw [if_pos (by omega), if_pos (by omega), if_pos (by omega), if_pos (by omega), if_pos (by omega), Int.toNat_natCast, Int.toNat_natCast, show wrap64 ((i : Int) + 1) = ((i + 1 : Nat) : Int) by rw [w64' (by omega) (by omega)]; rfl]
    · simp only [spec_l01Cut.l0]
      rw [if_neg (by omega)]
    · rw [Lib.extract_eq]; exact Ev.now _
  | d + 1, i, a, acc, hi, ha, hacc => by
    have hl : t.data.toList.length = t.size := by simp
    have hb := bt_val t i (by omega)
    rw [List.drop_eq_getElem_cons (i := i) (by omega)]
    have hg : (t.data.toList.drop a).take (i + 1 - a) = (t.data.toList.drop a).take (i - a) ++ [t.data.toList[i]'(by omega)] := by
      rw [show i + 1 - a = (i - a) + 1 by omega, List.take_succ_eq_append_getElem (by rw [List.length_drop]; omega), List.getElem_drop]
      congr 2
      congr 1
      omega
    obtain ⟨x, hx⟩ : ∃ x, (t.data.toList[i]'(by omega)) = x := ⟨_, rfl⟩
    rw [hx] at hb hg ⊢
    have hw : wrap64 ((i : Int) + 1) = ((i + 1 : Nat) : Int) := by rw [w64' (by omega) (by omega)]; rfl
    by_cases c : x = 10
    · subst c
      rw [pre_nl]
      have ih := ev_cut t ht d (i + 1) (i + 1) (acc ++ [t.extract a i]) (by omega) (by omega) (by simp; omega)
      rw [Nat.sub_self, List.take_zero] at ih
      refine Ev.step (f := fun k => spec_l01Cut.l0 k t 10 (acc ++ [t.extract a i]) ((i + 1 : Nat) : Int) ((i + 1 : Nat) : Int)) (fun k => ?_) ?_
      · simp only [spec_l01Cut.l0]
        rw [if_pos (by omega), if_neg (by omega), if_pos (by omega), if_pos (by omega), hb, if_pos (by rfl), if_pos (by omega), if_pos (by omega), if_pos (by omega), Int.toNat_natCast, Int.toNat_natCast, hw]
      · rw [List.map_cons, show mk ((t.data.toList.drop a).take (i - a)) = t.extract a i by rw [Lib.extract_eq]; rfl]
        rw [List.append_assoc, List.singleton_append] at ih
        exact ih
    · rw [pre_on _ _ _ c, ← hg]
      have ih := ev_cut t ht d (i + 1) a acc (by omega) (by omega) (by omega)
      refine Ev.step (f := fun k => spec_l01Cut.l0 k t 10 acc (a : Int) ((i + 1 : Nat) : Int)) (fun k => ?_) ih
      simp only [spec_l01Cut.l0]
      rw [if_pos (by omega), if_neg (by omega), if_pos (by omega), if_pos (by omega), hb, if_neg (by intro h; apply c; exact UInt8.toNat_inj.1 (by show x.toNat = 10; omega)), hw]
theorem ev_lines (t : ByteArray) (ht : t.size ≤ 1048576) : Ev (fun k => spec_l11Lines.f k t) ((splitL t.data.toList).1.map mk, mk (splitL t.data.toList).2) := by
  have h := ev_cut t ht t.size 0 0 [] (by omega) (Nat.le_refl _) (Nat.zero_le _)
  have hn := split_len t.data.toList
  have hl : t.data.toList.length = t.size := by simp
  rw [List.drop_zero, Nat.sub_self, List.take_zero, pre_nil, List.nil_append, List.map_append] at h
  unfold spec_l11Lines.f
  refine Ev.bind h ?_
  rw [if_pos (by simp; omega)]
  have e1 : ((List.map mk (splitL t.data.toList).1 ++ List.map mk [(splitL t.data.toList).2]).length - 1) = (List.map mk (splitL t.data.toList).1).length := by simp
  rw [e1, List.take_left, List.map_cons, rds _ _ _ _ rfl]
  exact Ev.now _
/-- What is recovered. -/
def recL : List (List UInt8) → List ByteArray → Int → Int → List ByteArray × Int × Bool
  | [], out, c, n => (out, n, true)
  | x :: xs, out, c, n => match sp x 32 with
    | none => (out, n, true)
    | some (u, v) => if mk u = dec (chk c (mk v)) then recL xs (out ++ [mk v]) (chk c (mk v)) (n + (x.length + 1)) else (out, n, true)
theorem recL_len : ∀ (ls : List (List UInt8)) (out : List ByteArray) (c n : Int), (recL ls out c n).1.length ≤ out.length + ls.length
  | [], out, c, n => Nat.le_refl _
  | x :: xs, out, c, n => by
    unfold recL
    split
    · simp only [List.length_cons]; omega
    · split
      · rename_i u v hs hc
        have := recL_len xs (out ++ [mk v]) (chk c (mk v)) (n + (x.length + 1))
        simp only [List.length_append, List.length_cons, List.length_nil] at this ⊢; omega
      · simp only [List.length_cons]; omega
def cutO (l : List UInt8) (c : UInt8) : ByteArray × ByteArray × Bool := match sp l c with
  | none => (mk l, ⟨#[]⟩, false)
  | some (u, v) => (mk u, mk v, true)
theorem cutO_none {l : List UInt8} {c : UInt8} (h : sp l c = none) : cutO l c = (mk l, ⟨#[]⟩, false) := by unfold cutO; rw [h]
theorem cutO_some {l u v : List UInt8} {c : UInt8} (h : sp l c = some (u, v)) : cutO l c = (mk u, mk v, true) := by unfold cutO; rw [h]
theorem cutO_size (l : List UInt8) (c : UInt8) : (cutO l c).2.1.size ≤ l.length := by
  cases h : sp l c with
  | none => rw [cutO_none h]; exact Nat.zero_le _
  | some r =>
    obtain ⟨u, v⟩ := r
    rw [cutO_some h, (sp_some h).2]
    show (mk v).size ≤ _
    rw [mk_size]; simp; omega
theorem cut_is (l : List UInt8) (c : UInt8) (hl : l.length ≤ 1048576) : strings_Cut.f (mk l) (⟨#[c]⟩ : ByteArray) = some (cutO l c) := by
  unfold strings_Cut.f
  rw [if_pos ⟨rfl, by rw [mk_size]; exact hl⟩]
  congr 1
  unfold cutR cutI
  rw [mk_list, show ((⟨#[c]⟩ : ByteArray).data.toList.headD 0) = c from rfl]
  cases h : sp l c with
  | none => rw [sp_none h, if_neg (by decide), cutO_none h]
  | some r =>
    obtain ⟨u, v⟩ := r
    obtain ⟨h1, h2⟩ := sp_some h
    rw [h1, if_pos (by omega), cutO_some h, Int.toNat_natCast, mk_ex, mk_ex, mk_size, h2]
    congr 2
    · simp
    · congr 1
      simp
      exact List.take_of_length_le (by omega)
theorem app_list (a b : ByteArray) : (a ++ b).data.toList = a.data.toList ++ b.data.toList := by simp
theorem jl_iff (D : ByteArray) (u v : List UInt8) : (((D ++ (⟨#[32]⟩ : ByteArray)) ++ mk v) ++ (⟨#[10]⟩ : ByteArray)).toList = (mk (u ++ 32 :: v) ++ (⟨#[10]⟩ : ByteArray)).toList ↔ mk u = D := by
  rw [Lib.toList_data, Lib.toList_data, app_list, app_list, app_list, app_list]
  constructor
  · intro h
    have h := List.append_cancel_right h
    have h' : D.data.toList ++ (32 :: v) = u ++ (32 :: v) := by simpa [mk_list] using h
    have := List.append_cancel_right h'
    rw [← this]; exact mk_of D
  · rintro rfl; simp [mk_list]
set_option maxHeartbeats 2000000 in
theorem ev_implRec (t : ByteArray) (ht : t.size ≤ 4000) : ∀ (ls : List (List UInt8)) (p : Nat) (out : List ByteArray) (c : Int), p ≤ t.size → (splitL (t.data.toList.drop p)).1 = ls → out.length ≤ p → 0 ≤ c → c ≤ 64900 →
    Ev (fun k => impl_RecoverJournal.l0 k t out c (p : Int)) (recL ls out c (p : Int)) := by
  intro ls
  induction ls with
  | nil =>
    intro p out c hp hls hout h0 h1
    have hl : t.data.toList.length = t.size := by simp
    have hlen : (t.data.toList.drop p).length = t.size - p := by rw [List.length_drop, hl]
    have hx : t.extract p t.size = mk (t.data.toList.drop p) := by rw [Lib.extract_eq, List.take_of_length_le (by rw [hlen]; exact Nat.le_refl _)]; rfl
    obtain ⟨l, hll⟩ : ∃ l, t.data.toList.drop p = l := ⟨_, rfl⟩
    rw [hll] at hls hlen hx
    cases hs : sp l 10 with
    | some r => obtain ⟨u, v⟩ := r; rw [split_some hs] at hls; exact absurd hls (by simp)
    | none =>
      have hz := cutO_size l 32
      refine Ev.step (f := fun k => (impl_journalLine.f k c (cutO l 32).2.1).bind fun _ => some (out, (p : Int), true)) (fun k => ?_) (Ev.bind (ev_line _ (by omega) c h0 h1) (Ev.now _))
      simp only [impl_RecoverJournal.l0]
      rw [if_pos (by omega), if_pos (by omega), Int.toNat_natCast, hx, cut_is l 10 (by omega), Option.bind_some, cutO_none hs]
      simp only [cut_is l 32 (by omega), Option.bind_some, Bool.false_eq_true, if_false]
  | cons y ys ih =>
    intro p out c hp hls hout h0 h1
    have hl : t.data.toList.length = t.size := by simp
    have hlen : (t.data.toList.drop p).length = t.size - p := by rw [List.length_drop, hl]
    have hx : t.extract p t.size = mk (t.data.toList.drop p) := by rw [Lib.extract_eq, List.take_of_length_le (by rw [hlen]; exact Nat.le_refl _)]; rfl
    obtain ⟨l, hll⟩ : ∃ l, t.data.toList.drop p = l := ⟨_, rfl⟩
    rw [hll] at hls hlen hx
    cases hs : sp l 10 with
    | none => rw [split_none hs] at hls; exact absurd hls (by simp)
    | some r =>
      obtain ⟨u, v⟩ := r
      rw [split_some hs] at hls
      simp only [List.cons.injEq] at hls
      obtain ⟨rfl, hys⟩ := hls
      have hlu := (sp_some hs).2
      have hlz : l.length = u.length + 1 + v.length := by rw [hlu]; simp; omega
      have hz := cutO_size u 32
      cases hs2 : sp u 32 with
      | none =>
        have e : recL (u :: ys) out c (p : Int) = (out, (p : Int), true) := by unfold recL; rw [hs2]
        rw [e]
        refine Ev.step (f := fun k => (impl_journalLine.f k c (⟨#[]⟩ : ByteArray)).bind fun _ => some (out, (p : Int), true)) (fun k => ?_) (Ev.bind (ev_line _ (by show (0 : Nat) ≤ _; omega) c h0 h1) (Ev.now _))
        simp only [impl_RecoverJournal.l0]
        rw [if_pos (by omega), if_pos (by omega), Int.toNat_natCast, hx, cut_is l 10 (by omega), Option.bind_some, cutO_some hs]
        simp only [cut_is u 32 (by omega), Option.bind_some, cutO_none hs2, Bool.false_eq_true, if_false, if_true]
      | some r2 =>
        obtain ⟨u1, v1⟩ := r2
        have hu := (sp_some hs2).2
        have huz : u.length = u1.length + 1 + v1.length := by rw [hu]; simp; omega
        have hvs : (mk v1).size ≤ 1048576 := by rw [mk_size]; omega
        have hck : 0 ≤ chk c (mk v1) ∧ chk c (mk v1) ≤ 64900 := chkL_le v1 c h0 h1
        refine Ev.step (f := fun k => (impl_journalLine.f k c (mk v1)).bind fun r => if r.1.toList = (mk u ++ (⟨#[10]⟩ : ByteArray)).toList then (if out.length < 8796093022208 then impl_RecoverJournal.l0 k t (out ++ [mk v1]) r.2 (wrap64 ((p : Int) + (r.1.size : Int))) else none) else some (out, (p : Int), true)) (fun k => ?_) (Ev.bind (ev_line _ hvs c h0 h1) ?_)
        · simp only [impl_RecoverJournal.l0]
          rw [if_pos (by omega), if_pos (by omega), Int.toNat_natCast, hx, cut_is l 10 (by omega), Option.bind_some, cutO_some hs]
          simp only [cut_is u 32 (by omega), Option.bind_some, cutO_some hs2, if_true, if_pos (show (mk u).size + 1 ≤ 9223372036854775807 by rw [mk_size]; omega)]
        · have hj := jl_iff (dec (chk c (mk v1))) u1 v1
          rw [← hu] at hj
          by_cases hc : mk u1 = dec (chk c (mk v1))
          · have e : recL (u :: ys) out c (p : Int) = recL ys (out ++ [mk v1]) (chk c (mk v1)) ((p + (u.length + 1) : Nat) : Int) := by
              conv => lhs; unfold recL
              rw [hs2]
              simp only [if_pos hc]
              congr 1
            have hsz : (jline c (mk v1)).size = u.length + 1 := by
              unfold jline
              rw [size_app, size_app, size_app, ← hc, mk_size, mk_size]
              show u1.length + 1 + v1.length + 1 = _
              omega
            have hdrop : t.data.toList.drop (p + (u.length + 1)) = v := by
              rw [← List.drop_drop, hll, hlu, show u ++ 10 :: v = (u ++ [10]) ++ v by simp, show u.length + 1 = (u ++ [10]).length by simp, List.drop_left]
            have ih' := ih (p + (u.length + 1)) (out ++ [mk v1]) (chk c (mk v1)) (by omega) (by rw [hdrop]; exact hys) (by simp; omega) hck.1 hck.2
            rw [e]
            have hT : (jline c (mk v1)).toList = (mk u ++ (⟨#[10]⟩ : ByteArray)).toList := hj.2 hc
            simp only [if_pos hT, if_pos (show out.length < 8796093022208 by omega), hsz]
            rw [show wrap64 ((p : Int) + ((u.length + 1 : Nat) : Int)) = ((p + (u.length + 1) : Nat) : Int) by rw [w64' (by omega) (by omega)]; omega]
            exact ih'
          · have e : recL (u :: ys) out c (p : Int) = (out, (p : Int), true) := by unfold recL; rw [hs2]; simp only [if_neg hc]
            rw [e]
            have hT : ¬ (jline c (mk v1)).toList = (mk u ++ (⟨#[10]⟩ : ByteArray)).toList := fun h => hc (hj.1 h)
            simp only [if_neg hT]
            exact Ev.now _
/-- How many bytes are ahead of the first blank. -/
def pos (l : List UInt8) : Nat := match sp l 32 with
  | none => l.length
  | some (u, _) => u.length
theorem pos_on (b : UInt8) (l : List UInt8) (h : b ≠ 32) : pos (b :: l) = pos l + 1 := by
  unfold pos
  conv => lhs; unfold sp
  rw [if_neg h]
  cases sp l 32 <;> rfl
theorem pos_sp (l : List UInt8) : pos (32 :: l) = 0 := by unfold pos sp; rfl
theorem ev_scan (L out : List ByteArray) (c n : Int) (i : Nat) (x : List UInt8) (hx : rdOf ByteArray.empty L (i : Int) = mk x) (hi : i < L.length) (hxl : x.length ≤ 4000) (R : List ByteArray × Int × Bool) : ∀ (d j : Nat), j + d = x.length →
    Ev (fun k => spec_RecoverJournal.j2 k L out c n (i : Int) ((j + pos (x.drop j) : Nat) : Int)) R → Ev (fun k => spec_RecoverJournal.l1 k L out c n (i : Int) (j : Int)) R
  | 0, j, hj, h => by
    rw [List.drop_of_length_le (by omega), show pos [] = 0 from rfl, Nat.add_zero] at h
    refine Ev.step (f := fun k => spec_RecoverJournal.j2 k L out c n (i : Int) (j : Int)) (fun k => ?_) h
    simp only [spec_RecoverJournal.l1]
    rw [if_pos (by omega), if_pos (by omega), hx, mk_size, if_neg (by omega)]
  | d + 1, j, hj, h => by
    have hb := bt_val (mk x) j (by rw [mk_size]; omega)
    have hg : (mk x).data.toList[j]'(by rw [mk_list]; omega) = x[j]'(by omega) := rfl
    rw [hg] at hb
    rw [List.drop_eq_getElem_cons (by omega)] at h
    obtain ⟨b, hbb⟩ : ∃ b, x[j]'(by omega) = b := ⟨_, rfl⟩
    rw [hbb] at hb h
    by_cases e : b = 32
    · subst e
      rw [pos_sp, Nat.add_zero] at h
      refine Ev.step (f := fun k => spec_RecoverJournal.j2 k L out c n (i : Int) (j : Int)) (fun k => ?_) h
      simp only [spec_RecoverJournal.l1]
      rw [if_pos (by omega), if_pos (by omega), hx, mk_size, if_pos (by omega), if_pos (by omega), hb, if_pos (by rfl)]
    · rw [pos_on _ _ e, show j + (pos (x.drop (j + 1)) + 1) = (j + 1) + pos (x.drop (j + 1)) by omega] at h
      refine Ev.step (f := fun k => spec_RecoverJournal.l1 k L out c n (i : Int) ((j + 1 : Nat) : Int)) (fun k => ?_) (ev_scan L out c n i x hx hi hxl R d (j + 1) (by omega) h)
      simp only [spec_RecoverJournal.l1]
      rw [if_pos (by omega), if_pos (by omega), hx, mk_size, if_pos (by omega), if_pos (by omega), hb, if_neg (by intro h; apply e; exact UInt8.toNat_inj.1 (by show b.toNat = 32; omega)), show wrap64 ((j : Int) + 1) = ((j + 1 : Nat) : Int) by rw [w64' (by omega) (by omega)]; rfl]
theorem ev_check (s : ByteArray) (hs : s.size ≤ 1048576) (n : Int) (h0 : 0 ≤ n) (h1 : n ≤ 64900) : Ev (fun k => spec_l01Check.f k n s) (chk n s) := by
  refine ⟨s.size + 1, fun k hk => ?_⟩
  have h := check_loop s (by omega) s.size 0 n (by omega) h0 h1 (k - (s.size + 1))
  rw [show k - (s.size + 1) + s.size + 1 = k by omega] at h
  exact h
theorem ev_dec (n : Int) (h0 : 0 ≤ n) (h1 : n ≤ 64900) : Ev (fun k => spec_l01Dec.f k n) (dec n) := by
  obtain ⟨k, h⟩ := dec_is n h0 h1
  exact Ev.of (fun k => spec_l01Dec.mono n k) h
set_option maxHeartbeats 2000000 in
theorem ev_specRec : ∀ (ls : List (List UInt8)) (done out : List ByteArray) (c n : Int), (done ++ ls.map mk).length ≤ 5000 → (∀ x ∈ ls, x.length ≤ 4000) → 0 ≤ c → c ≤ 64900 → 0 ≤ n → n + 4001 * (ls.length : Int) ≤ 1000000000 → out.length ≤ done.length →
    Ev (fun k => spec_RecoverJournal.l0 k (done ++ ls.map mk) out c n (done.length : Int)) (recL ls out c n)
  | [], done, out, c, n, hl, hs, h0, h1, n0, n1, ho => by
    refine Ev.step (f := fun _ => some (out, n, true)) (fun k => ?_) (Ev.now _)
    simp only [spec_RecoverJournal.l0]
    rw [if_neg (by simp)]
  | x :: xs, done, out, c, n, hl, hs, h0, h1, n0, n1, ho => by
    have hxl := hs x (by simp)
    have hi : done.length < (done ++ (x :: xs).map mk).length := by simp
    have hrd : rdOf ByteArray.empty (done ++ (x :: xs).map mk) (done.length : Int) = mk x := rds done (mk x) (xs.map mk) _ rfl
    have happ : done ++ (x :: xs).map mk = (done ++ [mk x]) ++ xs.map mk := by simp
    obtain ⟨L, hL⟩ : ∃ L, done ++ (x :: xs).map mk = L := ⟨_, rfl⟩
    rw [hL] at hi hrd happ hl ⊢
    refine Ev.step (f := fun k => spec_RecoverJournal.l1 k L out c n (done.length : Int) 0) (fun k => ?_) ?_
    · simp only [spec_RecoverJournal.l0]
      rw [if_pos (by omega)]
    refine ev_scan L out c n done.length x hrd hi hxl _ x.length 0 (by omega) ?_
    rw [List.drop_zero, Nat.zero_add]
    cases hsp : sp x 32 with
    | none =>
      have e : recL (x :: xs) out c n = (out, n, true) := by unfold recL; rw [hsp]
      have hp : pos x = x.length := by unfold pos; rw [hsp]
      rw [e, hp]
      refine Ev.step (f := fun _ => some (out, n, true)) (fun k => ?_) (Ev.now _)
      simp only [spec_RecoverJournal.j2]
      rw [if_pos (by omega), if_pos (by omega), hrd, mk_size, if_pos rfl]
    | some r =>
      obtain ⟨u, v⟩ := r
      have hx := (sp_some hsp).2
      have hxz : x.length = u.length + 1 + v.length := by rw [hx]; simp; omega
      have hp : pos x = u.length := by unfold pos; rw [hsp]
      rw [hp]
      have hck : 0 ≤ chk c (mk v) ∧ chk c (mk v) ≤ 64900 := chkL_le v c h0 h1
      have hv1 : (mk v).size ≤ 1048576 := by rw [mk_size]; omega
      have hE1 := ev_check (mk v) hv1 c h0 h1
      have e : recL (x :: xs) out c n = if mk u = dec (chk c (mk v)) then recL xs (out ++ [mk v]) (chk c (mk v)) (n + (x.length + 1)) else (out, n, true) := by
        conv => lhs; unfold recL
        rw [hsp]
      obtain ⟨C, hC⟩ : ∃ C, chk c (mk v) = C := ⟨_, rfl⟩
      rw [hC] at hck hE1 e
      clear hC
      have hE2 := ev_dec C hck.1 hck.2
      have ex1 : (mk x).extract (u.length + 1) x.length = mk v := by
        rw [mk_ex, hx, show u ++ 32 :: v = (u ++ [32]) ++ v by simp, show u.length + 1 = (u ++ [32]).length by simp, List.drop_left, List.take_of_length_le (by simp; omega)]
      have ex2 : (mk x).extract 0 u.length = mk u := by
        rw [mk_ex, hx, List.drop_zero, Nat.sub_zero, List.take_left]
      have n2 : n + ((x.length : Int) + 1) < 9223372036854775808 := by simp only [List.length_cons] at n1; omega
      have n3 : n + ((x.length : Int) + 1) + 4001 * (xs.length : Int) ≤ 1000000000 := by simp only [List.length_cons] at n1; omega
      clear n1
      have d1 : (done.length : Int) < 1000000 := by rw [happ] at hl; simp only [List.length_append] at hl; omega
      have hj2 : ∀ k, spec_RecoverJournal.j2 (k + 1) L out c n (done.length : Int) (u.length : Int) = (spec_l01Check.f k c (mk v)).bind fun q => (spec_l01Dec.f k q).bind fun z => if (mk u).toList = z.toList then (if out.length < 8796093022208 then spec_RecoverJournal.l0 k L (out ++ [mk v]) q (n + ((x.length : Int) + 1)) ((done.length : Int) + 1) else none) else some (out, n, true) := by
        intro k
        clear hE1 hE2 e hck
        simp only [spec_RecoverJournal.j2]
        rw [if_pos (by omega), if_pos (by omega), hrd, mk_size, if_neg (by omega), w64' (x := (u.length : Int) + 1) (by omega) (by omega), if_pos (by omega), if_pos (by omega), show ((u.length : Int) + 1).toNat = u.length + 1 by omega, ex1, Int.toNat_natCast, ex2]
        rw [w64' (x := (x.length : Int) + 1) (by omega) (by omega), w64' (x := n + ((x.length : Int) + 1)) (by omega) n2, w64' (x := (done.length : Int) + 1) (by omega) (by omega)]
        simp only [if_pos (show (0 : Int) ≤ (u.length : Int) by omega), if_pos (show (u.length : Int) ≤ (x.length : Int) by omega)]
      refine Ev.step (f := _) hj2 (Ev.bind hE1 (Ev.bind hE2 ?_))
      have hiff : ((mk u).toList = (dec C).toList) ↔ mk u = dec C := by
        rw [Lib.toList_data, Lib.toList_data]
        constructor
        · intro h; rw [← mk_of (dec C), ← h]; rfl
        · intro h; rw [h]
      rw [e]
      by_cases hc : mk u = dec C
      · have hT := hiff.2 hc
        have ho2 : out.length < 8796093022208 := by omega
        simp only [if_pos hT, if_pos hc, if_pos ho2]
        have ih := ev_specRec xs (done ++ [mk x]) (out ++ [mk v]) C (n + (x.length + 1)) (by rw [← happ]; exact hl) (fun y hy => hs y (by simp [hy])) hck.1 hck.2 (by omega) n3 (by simp; omega)
        rw [← happ, show ((done ++ [mk x]).length : Int) = (done.length : Int) + 1 by simp] at ih
        exact ih
      · have hT : ¬ (mk u).toList = (dec C).toList := fun h => hc (hiff.1 h)
        simp only [if_neg hT, if_neg hc]
        exact Ev.now _
theorem split_each : ∀ (l : List UInt8), ∀ x ∈ (splitL l).1, x.length ≤ l.length
  | [], x, hx => by simp [splitL] at hx
  | b :: l, x, hx => by
    have ih := split_each l
    unfold splitL at hx
    by_cases e : b = 10
    · rw [if_pos e] at hx
      simp only [List.mem_cons] at hx
      rcases hx with rfl | hx
      · exact Nat.zero_le _
      · have := ih x hx; simp only [List.length_cons]; omega
    · rw [if_neg e] at hx
      cases h : (splitL l).1 with
      | nil => rw [h] at hx; simp at hx
      | cons y ys =>
        rw [h] at hx ih
        simp only [List.mem_cons] at hx
        rcases hx with rfl | hx
        · have := ih y (by simp); simp only [List.length_cons]; omega
        · have := ih x (by simp [hx]); simp only [List.length_cons]; omega
/-- What both return. -/
def recR (t : ByteArray) : List ByteArray × Int × Bool := if t.size ≤ 4000 then recL (splitL t.data.toList).1 [] 0 0 else ([], 0, false)
theorem recR_len (t : ByteArray) : (recR t).1.length ≤ 4000 := by
  unfold recR
  split
  · have h1 := recL_len (splitL t.data.toList).1 [] 0 0
    have h2 := split_len t.data.toList
    have hl : t.data.toList.length = t.size := by simp
    simp only [List.length_nil] at h1; omega
  · exact Nat.zero_le _
theorem ev_implR (t : ByteArray) : Ev (fun k => impl_RecoverJournal.f k t) (recR t) := by
  unfold impl_RecoverJournal.f recR
  by_cases c : t.size ≤ 4000
  · rw [if_pos c]
    simp only [if_neg (show ¬ (t.size : Int) > 4000 by omega)]
    exact ev_implRec t c _ 0 [] 0 (Nat.zero_le _) (by rw [List.drop_zero]) (Nat.le_refl _) (Int.le_refl _) (by decide)
  · rw [if_neg c]
    simp only [if_pos (show (t.size : Int) > 4000 by omega)]
    exact Ev.now _
theorem ev_specR (t : ByteArray) : Ev (fun k => spec_RecoverJournal.f k t) (recR t) := by
  unfold spec_RecoverJournal.f recR
  by_cases c : t.size ≤ 4000
  · rw [if_pos c]
    simp only [if_neg (show ¬ (t.size : Int) > 4000 by omega)]
    have hl : t.data.toList.length = t.size := by simp
    have h2 := split_len t.data.toList
    have h3 := split_each t.data.toList
    refine Ev.bind (ev_lines t (by omega)) ?_
    exact ev_specRec (splitL t.data.toList).1 [] [] 0 0 (by simp; omega) (fun x hx => by have := h3 x hx; omega) (Int.le_refl _) (by decide) (Int.le_refl _) (by omega) (Nat.le_refl _)
  · rw [if_neg c]
    simp only [if_pos (show (t.size : Int) > 4000 by omega)]
    exact Ev.now _
end Go.Proofs.YtjpjlobpglmoiaaDoor.Pure
/- A journal's lines, cut and recovered: plain lemmas. No conditions. -/
namespace Go.Proofs.YtjpjlobpglmoiaaDoor.Pure
set_option linter.unusedVariables false
set_option linter.unusedSimpArgs false
open Go.RowKit Go.Proofs.YtjpjlobpglmoiaaDoor.A Go.Proofs.YtjpjlobpglmoiaaDoorW.PrintWords Go.Proofs.YtjpjlobpglmoiaaDoorW.PrintLast Go.Proofs.YtjpjlobpglmoiaaDoorW.PrintMore
theorem dig_ge : ∀ (m : Nat), ∀ b ∈ Lib.decDigits m, 48 ≤ b.toNat := by
  intro m
  induction m using Nat.strongRecOn with
  | _ m ih =>
    intro b hb
    rw [Lib.decDigits] at hb
    split at hb
    · rename_i c
      rw [List.mem_singleton.1 hb, UInt8.toNat_ofNat']; omega
    · rename_i c
      rcases List.mem_append.1 hb with hb | hb
      · exact ih (m / 10) (by omega) b hb
      · rw [List.mem_singleton.1 hb, UInt8.toNat_ofNat']; omega
theorem dec_ge (n : Int) (h0 : 0 ≤ n) : ∀ b ∈ (dec n).data.toList, 48 ≤ b.toNat := by
  intro b hb
  unfold dec Lib.itoa at hb
  rw [if_neg (by omega)] at hb
  exact dig_ge _ b hb
theorem sp_first : ∀ (u : List UInt8) (c : UInt8) (v : List UInt8), c ∉ u → sp (u ++ c :: v) c = some (u, v)
  | [], c, v, _ => by simp [sp]
  | b :: u, c, v, h => by
    rw [List.cons_append, sp, if_neg (fun e => h (by rw [e]; exact List.mem_cons_self ..)), sp_first u c v (fun z => h (List.mem_cons_of_mem _ z))]; rfl
theorem sp_nil : ∀ (u : List UInt8) (c : UInt8), c ∉ u → sp u c = none
  | [], c, _ => rfl
  | b :: u, c, h => by
    rw [sp, if_neg (fun e => h (by rw [e]; exact List.mem_cons_self ..)), sp_nil u c (fun z => h (List.mem_cons_of_mem _ z))]; rfl
/-- Lines, each with its newline. -/
def flat : List (List UInt8) → List UInt8
  | [] => []
  | x :: X => x ++ 10 :: flat X
theorem flat_app (X Y : List (List UInt8)) : flat (X ++ Y) = flat X ++ flat Y := by
  induction X with
  | nil => rfl
  | cons x X ih => simp [flat, ih]
theorem split_line (x r : List UInt8) (h : (10 : UInt8) ∉ x) : splitL (x ++ 10 :: r) = (x :: (splitL r).1, (splitL r).2) := split_some (sp_first x 10 r h)
theorem split_flat : ∀ (X : List (List UInt8)) (r : List UInt8), (∀ x ∈ X, (10 : UInt8) ∉ x) → splitL (flat X ++ r) = (X ++ (splitL r).1, (splitL r).2)
  | [], r, _ => rfl
  | x :: X, r, h => by
    rw [flat, List.append_assoc, List.cons_append, split_line x _ (h x (List.mem_cons_self ..)), split_flat X r (fun y hy => h y (List.mem_cons_of_mem _ hy))]; rfl
/-- What is split makes the text again. -/
theorem split_join : ∀ (l : List UInt8), flat (splitL l).1 ++ (splitL l).2 = l ∧ (∀ x ∈ (splitL l).1, (10 : UInt8) ∉ x) ∧ (10 : UInt8) ∉ (splitL l).2
  | [] => ⟨rfl, fun x hx => by simp [splitL] at hx, by simp [splitL]⟩
  | b :: l => by
    obtain ⟨h1, h2, h3⟩ := split_join l
    rw [splitL]
    by_cases e : b = 10
    · rw [if_pos e]
      refine ⟨by rw [flat, List.nil_append, List.cons_append, h1, e], fun x hx => ?_, h3⟩
      rcases List.mem_cons.1 hx with rfl | hx
      · simp
      · exact h2 x hx
    · rw [if_neg e]
      cases hs : (splitL l).1 with
      | nil =>
        rw [hs] at h1
        refine ⟨by simpa [flat] using h1, fun x hx => by simp at hx, fun z => ?_⟩
        rcases List.mem_cons.1 z with z | z
        · exact e z.symm
        · exact h3 z
      | cons y ys =>
        rw [hs] at h1 h2
        refine ⟨by simpa [flat] using h1, fun x hx => ?_, h3⟩
        rcases List.mem_cons.1 hx with rfl | hx
        · intro z
          rcases List.mem_cons.1 z with z | z
          · exact e z.symm
          · exact h2 y (List.mem_cons_self ..) z
        · exact h2 x (List.mem_cons_of_mem _ hx)
/-- A text of lines that is cut: some lines stay whole. -/
theorem take_flat : ∀ (X : List (List UInt8)) (n : Nat), (∀ x ∈ X, (10 : UInt8) ∉ x) → ∃ w r, w ≤ X.length ∧ (flat X).take n = flat (X.take w) ++ r ∧ (10 : UInt8) ∉ r ∧ ((flat X).take n).count 10 = w
  | [], n, _ => ⟨0, [], Nat.le_refl _, by simp [flat], by simp, by simp [flat]⟩
  | x :: X, n, h => by
    have hx := h x (List.mem_cons_self ..)
    by_cases c : n ≤ x.length
    · have e : (flat (x :: X)).take n = x.take n := by rw [flat, List.take_append_of_le_length c]
      refine ⟨0, x.take n, Nat.zero_le _, by rw [e]; rfl, fun z => hx (List.mem_of_mem_take z), ?_⟩
      rw [e, List.count_eq_zero]
      exact fun z => hx (List.mem_of_mem_take z)
    · obtain ⟨w, r, h1, h2, h3, h4⟩ := take_flat X (n - x.length - 1) (fun y hy => h y (List.mem_cons_of_mem _ hy))
      have e : (flat (x :: X)).take n = x ++ 10 :: (flat X).take (n - x.length - 1) := by
        rw [flat, List.take_append, List.take_of_length_le (by omega), show n - x.length = (n - x.length - 1) + 1 by omega, List.take_succ_cons]
        simp
      refine ⟨w + 1, r, by simp; omega, ?_, h3, ?_⟩
      · rw [e, h2, List.take_succ_cons, flat, List.append_assoc, List.cons_append]
      · rw [e, List.count_append, List.count_eq_zero.2 hx, List.count_cons_self, h4]; omega
/-- The journal's lines without newlines. -/
def jl (c : Int) : List ByteArray → List (List UInt8)
  | [] => []
  | s :: L => ((dec (chk c s)).data.toList ++ 32 :: s.data.toList) :: jl (chk c s) L
def jc (c : Int) (L : List ByteArray) : Int := L.foldl chk c
theorem jl_take : ∀ (L : List ByteArray) (c : Int) (w : Nat), (jl c L).take w = jl c (L.take w)
  | [], c, w => by simp [jl]
  | s :: L, c, 0 => rfl
  | s :: L, c, w + 1 => by rw [jl, List.take_succ_cons, List.take_succ_cons, jl, jl_take L _ w]
theorem jl_len : ∀ (L : List ByteArray) (c : Int), (jl c L).length = L.length
  | [], c => rfl
  | s :: L, c => by rw [jl, List.length_cons, List.length_cons, jl_len L]
theorem chk_le' (c : Int) (s : ByteArray) (h0 : 0 ≤ c) (h1 : c ≤ 64900) : 0 ≤ chk c s ∧ chk c s ≤ 64900 := chkL_le _ _ h0 h1
theorem jl_no : ∀ (L : List ByteArray) (c : Int), 0 ≤ c → c ≤ 64900 → (∀ s ∈ L, hasNl s = false) → ∀ x ∈ jl c L, (10 : UInt8) ∉ x
  | [], c, _, _, _ => fun x hx => by simp [jl] at hx
  | s :: L, c, h0, h1, h => fun x hx => by
    have hc := chk_le' c s h0 h1
    rw [jl] at hx
    rcases List.mem_cons.1 hx with rfl | hx
    · intro z
      rcases List.mem_append.1 z with z | z
      · exact absurd (dec_ge _ hc.1 _ z) (by decide)
      · rcases List.mem_cons.1 z with z | z
        · exact absurd z (by decide)
        · have := h s (List.mem_cons_self ..)
          unfold hasNl at this
          rw [List.contains_eq_mem, decide_eq_false_iff_not] at this
          exact this z
    · exact jl_no L _ hc.1 hc.2 (fun s hs => h s (List.mem_cons_of_mem _ hs)) x hx
theorem jline_list (c : Int) (s : ByteArray) : (jline c s).data.toList = ((dec (chk c s)).data.toList ++ 32 :: s.data.toList) ++ [10] := by
  unfold jline
  rw [app_list, app_list, app_list]
  simp
theorem jst_flat (L : List ByteArray) : ∀ (p : List ByteArray), (jst (p ++ L)).1.data.toList = (jst p).1.data.toList ++ flat (jl (jst p).2 L) ∧ (jst (p ++ L)).2 = jc (jst p).2 L := by
  induction L with
  | nil => intro p; simp [jl, flat, jc]
  | cons s L ih =>
    intro p
    obtain ⟨h1, h2⟩ := ih (p ++ [s])
    rw [List.append_assoc, List.singleton_append] at h1 h2
    rw [jst_snoc] at h1 h2
    refine ⟨?_, ?_⟩
    · rw [h1]
      show ((jst p).1 ++ jline (jst p).2 s).data.toList ++ flat (jl (chk (jst p).2 s) L) = _
      rw [app_list, jline_list, jl, flat]
      simp
    · rw [h2]; rfl
/-- Lines of a journal are recovered. -/
theorem recL_app : ∀ (L : List ByteArray) (more : List (List UInt8)) (out : List ByteArray) (c n : Int), 0 ≤ c → c ≤ 64900 → recL (jl c L ++ more) out c n = recL more (out ++ L) (jc c L) (n + ((flat (jl c L)).length : Int))
  | [], more, out, c, n, _, _ => by simp [jl, flat, jc]
  | s :: L, more, out, c, n, h0, h1 => by
    have hc := chk_le' c s h0 h1
    have hno : (32 : UInt8) ∉ (dec (chk c s)).data.toList := fun z => absurd (dec_ge _ hc.1 _ z) (by decide)
    rw [jl, List.cons_append, recL, sp_first _ _ _ hno]
    simp only [mk_of]
    rw [if_pos trivial, recL_app L more _ _ _ hc.1 hc.2]
    have e : (n + ((((dec (chk c s)).data.toList ++ 32 :: s.data.toList).length : Int) + 1)) + ((flat (jl (chk c s) L)).length : Int) = n + ((flat (((dec (chk c s)).data.toList ++ 32 :: s.data.toList) :: jl (chk c s) L)).length : Int) := by
      rw [flat]
      simp only [List.length_append, List.length_cons]
      omega
    rw [e, List.append_assoc]; rfl
/-- Whatever is recovered: its journal is the text's beginning. -/
theorem recL_all : ∀ (ls : List (List UInt8)) (out : List ByteArray) (c n : Int), c = (jst out).2 → n = ((jst out).1.data.toList.length : Int) → (∀ x ∈ ls, (10 : UInt8) ∉ x) →
    ∃ (more : List ByteArray) (Q R : List UInt8), (recL ls out c n).1 = out ++ more ∧ (recL ls out c n).2.2 = true ∧ (∀ s ∈ more, hasNl s = false) ∧ (jst (out ++ more)).1.data.toList = (jst out).1.data.toList ++ Q ∧ flat ls = Q ++ R ∧ (recL ls out c n).2.1 = (((jst out).1.data.toList ++ Q).length : Int)
  | [], out, c, n, hc, hn, _ => ⟨[], [], [], by simp [recL], rfl, fun s hs => by simp at hs, by simp, rfl, by simp [recL, hn]⟩
  | x :: xs, out, c, n, hc, hn, hx => by
    have stop : recL (x :: xs) out c n = (out, n, true) → ∃ (more : List ByteArray) (Q R : List UInt8), (recL (x :: xs) out c n).1 = out ++ more ∧ (recL (x :: xs) out c n).2.2 = true ∧ (∀ s ∈ more, hasNl s = false) ∧ (jst (out ++ more)).1.data.toList = (jst out).1.data.toList ++ Q ∧ flat (x :: xs) = Q ++ R ∧ (recL (x :: xs) out c n).2.1 = (((jst out).1.data.toList ++ Q).length : Int) :=
      fun h => ⟨[], [], flat (x :: xs), by rw [h]; simp, by rw [h], fun s hs => by simp at hs, by simp, rfl, by rw [h]; simp [hn]⟩
    cases hs : sp x 32 with
    | none => exact stop (by rw [recL, hs])
    | some uv =>
      obtain ⟨u, v⟩ := uv
      by_cases hd : mk u = dec (chk c (mk v))
      · have hr : recL (x :: xs) out c n = recL xs (out ++ [mk v]) (chk c (mk v)) (n + (x.length + 1)) := by rw [recL, hs]; simp only [if_pos hd]
        have hxe := (sp_some hs).2
        have hno := hx x (List.mem_cons_self ..)
        have hl : (jst (out ++ [mk v])).1.data.toList = (jst out).1.data.toList ++ (x ++ [10]) := by
          rw [jst_snoc]
          show ((jst out).1 ++ jline (jst out).2 (mk v)).data.toList = _
          rw [app_list, jline_list, ← hc, ← hd, mk_list, mk_list, hxe]
        obtain ⟨more, Q, R, h1, h2, h3, h4, h5, h6⟩ := recL_all xs (out ++ [mk v]) (chk c (mk v)) (n + (x.length + 1)) (by rw [jst_snoc, hc]; rfl) (by rw [hl, hn]; simp only [List.length_append, List.length_cons, List.length_nil]; omega) (fun y hy => hx y (List.mem_cons_of_mem _ hy))
        rw [List.append_assoc] at h1 h4
        rw [hl] at h4 h6
        refine ⟨[mk v] ++ more, x ++ [10] ++ Q, R, by rw [hr]; exact h1, by rw [hr]; exact h2, fun s hs2 => ?_, by rw [h4]; simp, by rw [flat, h5]; simp, by rw [hr, h6]; simp⟩
        rcases List.mem_append.1 hs2 with hs2 | hs2
        · rw [List.mem_singleton.1 hs2]
          unfold hasNl
          rw [mk_list, List.contains_eq_mem, decide_eq_false_iff_not]
          exact fun z => hno (by rw [hxe]; exact List.mem_append_right _ (List.mem_cons_of_mem _ z))
        · exact h3 s hs2
      · exact stop (by rw [recL, hs]; simp only [if_neg hd])
end Go.Proofs.YtjpjlobpglmoiaaDoor.Pure
