/- Texts of this claim, put together by this session's pack2.py: each part is introduced by its own comment. No conditions. -/
import Derived.Test.YtjpjlobpglmoiaaDoorQ24
import Derived.Test.YtjpjlobpglmoiaaDoorA6
import Derived.Test.YtjpjlobpglmoiaaDoorQ29
/- What is left to prove of the law FnJournal, about numbers and lists alone. Written by this session's row2.py. No conditions. -/
namespace Go.Proofs.YtjpjlobpglmoiaaDoor.A
open Go.RowKit Go.Proofs.YtjpjlobpglmoiaaDoorW.PrintWords Go.Proofs.YtjpjlobpglmoiaaDoorW.PrintLast Go.Proofs.YtjpjlobpglmoiaaDoor.O
def laws_FnJournal.Pure : Prop := ∀ (x0 : List Int) (x1 : List Int), Wf_L5 x0 → Wf_L5 x1 → ∃ k, laws_FnJournal.f k x0 x1 = some true
end Go.Proofs.YtjpjlobpglmoiaaDoor.A
/- The pure side of FnJournal: what is recovered of a journal that is cut, or bent, is a journal's beginning. No conditions. -/
namespace Go.Proofs.YtjpjlobpglmoiaaDoor.Pure
set_option linter.unusedVariables false
set_option linter.unusedSimpArgs false
set_option linter.unusedSectionVars false
open Go.RowKit Go.Proofs.YtjpjlobpglmoiaaDoor.A Go.Proofs.YtjpjlobpglmoiaaDoorW.PrintWords Go.Proofs.YtjpjlobpglmoiaaDoorW.PrintLast Go.Proofs.YtjpjlobpglmoiaaDoorW.PrintMore
theorem three_mem {l : List ByteArray} {s : ByteArray} (h : s ∈ l) : s.size + 3 ≤ three l := by
  induction l with
  | nil => simp at h
  | cons x l ih =>
    rw [three]
    rcases List.mem_cons.1 h with rfl | h
    · omega
    · have := ih h; omega
theorem three_len (l : List ByteArray) : 3 * l.length ≤ three l := by
  induction l with
  | nil => exact Nat.zero_le _
  | cons x l ih => rw [three, List.length_cons]; omega
theorem jst_small (l : List ByteArray) : (∀ s ∈ l, s.size ≤ 200) → (jst l).1.size ≤ 207 * l.length := by
  induction l using snoc_ind with
  | h0 => exact fun _ => Nat.zero_le _
  | h1 l s ih =>
    intro h
    have h1 := ih (fun x hx => h x (List.mem_append_left _ hx))
    have h2 := h s (List.mem_append_right _ (List.mem_singleton.2 rfl))
    have hc := chk_st l
    have hl := jline_size (jst l).2 s hc.1 hc.2
    rw [jst_snoc]
    show ((jst l).1 ++ jline (jst l).2 s).size ≤ _
    rw [size_app, List.length_append, List.length_singleton]
    omega
theorem ev_journal {l : List ByteArray} (h : ∀ s ∈ l, hasNl s = false) (hz : (jst l).1.size ≤ 4000) : Ev (fun k => impl_JournalOf.f k l) ((jst l).1, true) := by
  have h3 := three_le l
  have hs : ∀ s ∈ l, s.size ≤ 1048576 := fun s hs => by have := three_mem hs; omega
  have hl := three_len l
  have he := ev_implJour l [] (by simp; omega) (by simpa using hs) rfl (Nat.zero_le _)
  have e : jourB ([] ++ l) = ((jst l).1, true) := by
    unfold jourB
    rw [List.nil_append, if_pos ⟨List.all_eq_true.2 (fun s hs => by rw [h s hs]; rfl), hz⟩]
  rw [e] at he
  exact he
theorem ev_recover (l : List UInt8) (h : l.length ≤ 4000) : Ev (fun k => impl_RecoverJournal.f k (mk l)) (recL (splitL l).1 [] 0 0) := by
  have := ev_implR (mk l)
  unfold recR at this
  rw [if_pos (show (mk l).size ≤ 4000 from h)] at this
  exact this
theorem jst_list (L : List ByteArray) : (jst L).1.data.toList = flat (jl 0 L) := (jst_flat L []).1
theorem jst_end (L : List ByteArray) : (jst L).2 = jc 0 L := (jst_flat L []).2
theorem bt_mk (l : List UInt8) (i : Nat) (h : i < l.length) : bt (mk l) (i : Int) = ((l[i]).toNat : Int) := by
  have := bt_val (mk l) i h
  rw [this]; rfl
section
variable {x1 : List Int} (hu : U8 x1) (L : List ByteArray) (hL6 : L.length ≤ 6) (hok : ∀ s ∈ L, okL s 200) (a : Nat) (ha : a < (flat (jl 0 L)).length) (hl4 : (flat (jl 0 L)).length ≤ 4000)
variable (w : Nat) (r : List UInt8) (hw : w ≤ L.length) (hr : (flat (jl 0 L)).take a = flat (jl 0 (L.take w)) ++ r) (hr10 : (10 : UInt8) ∉ r) (hcnt : ((flat (jl 0 L)).take a).count 10 = w)
include hu hL6 hok ha hl4 hw hr hr10 hcnt
theorem ev_bent : ∀ (n : Nat), n = (flat (jl 0 (L.take w))).length → Ev (fun k => laws_FnJournal.l1 k x1 L (mk (flat (jl 0 L))) (a : Int) (L.take w) (n : Int) (w : Int) (w : Int)) true := by
  intro n hn
  obtain ⟨l, hl⟩ : ∃ l, flat (jl 0 L) = l := ⟨_, rfl⟩
  rw [hl] at ha hl4 hr hcnt ⊢
  obtain ⟨z, hz, z0, z1⟩ := b10At_eq hu 2 256 (by omega) (by omega)
  obtain ⟨b, hb⟩ : ∃ b : UInt8, strOfNums [z % 256] = mk [b] := ⟨_, rfl⟩
  have e1 : wrap64 ((a : Int) + 1) = ((a + 1 : Nat) : Int) := by rw [w64' (by omega) (by omega)]; rfl
  have x0 : (mk l).extract 0 a = mk (l.take a) := by rw [mk_ex]; rfl
  have x2 : (mk l).extract (a + 1) (mk l).size = mk (l.drop (a + 1)) := by
    rw [mk_ex, mk_size, List.take_of_length_le (by rw [List.length_drop]; omega)]
  have app : ∀ (p q : List UInt8), mk p ++ mk q = mk (p ++ q) := fun p q => by simp [mk, ByteArray.ext_iff]
  obtain ⟨Z, hZ⟩ : ∃ Z, r ++ b :: l.drop (a + 1) = Z := ⟨_, rfl⟩
  have hbl : l.take a ++ [b] ++ l.drop (a + 1) = flat (jl 0 (L.take w)) ++ Z := by rw [hr, ← hZ]; simp
  have hlen : (l.take a ++ [b] ++ l.drop (a + 1)).length = l.length := by simp; omega
  have hno : ∀ x ∈ jl 0 (L.take w), (10 : UInt8) ∉ x := jl_no _ 0 (by omega) (by omega) (fun s hs => (hok s (List.mem_of_mem_take hs)).nl)
  obtain ⟨j1, j2, j3⟩ := split_join Z
  obtain ⟨more, Q, R, h1, h2, h3, h4, h5, h6⟩ := recL_all (splitL Z).1 (L.take w) (jc 0 (L.take w)) (0 + ((flat (jl 0 (L.take w))).length : Int)) (jst_end _).symm (by rw [jst_list]; omega) j2
  have hrec : recL (splitL (l.take a ++ [b] ++ l.drop (a + 1))).1 [] 0 0 = recL (splitL Z).1 (L.take w) (jc 0 (L.take w)) (0 + ((flat (jl 0 (L.take w))).length : Int)) := by
    rw [hbl, split_flat _ _ hno, recL_app _ _ _ _ _ (by omega) (by omega), List.nil_append]
  have hR := ev_recover (l.take a ++ [b] ++ l.drop (a + 1)) (by omega)
  rw [hrec] at hR
  obtain ⟨res, hres⟩ : ∃ res, recL (splitL Z).1 (L.take w) (jc 0 (L.take w)) (0 + ((flat (jl 0 (L.take w))).length : Int)) = res := ⟨_, rfl⟩
  rw [hres] at hR h1 h2 h6
  obtain ⟨other, m, ok⟩ := res
  dsimp only at h1 h2 h6
  subst h2
  rw [jst_list (L.take w)] at h4 h6
  have hQ : flat (jl 0 (L.take w)) ++ Q ++ (R ++ (splitL Z).2) = l.take a ++ [b] ++ l.drop (a + 1) := by
    rw [hbl]
    conv => rhs; rw [← j1, h5]
    simp
  have hm : (flat (jl 0 (L.take w)) ++ Q).length ≤ l.length := by
    have hh := congrArg List.length hQ
    rw [List.length_append, hlen] at hh
    omega
  obtain ⟨q, hq⟩ : ∃ q, (flat (jl 0 (L.take w)) ++ Q).length = q := ⟨_, rfl⟩
  have hqn : n ≤ q := by rw [← hq, List.length_append, hn]; omega
  rw [hq] at h6 hm
  subst h6
  have hsz : (jst (L.take w ++ more)).1.size = q := by
    have : (jst (L.take w ++ more)).1.data.toList.length = q := by rw [h4, hq]
    simpa using this
  have hJ := ev_journal (l := L.take w ++ more) (fun s hs => by
    rcases List.mem_append.1 hs with hs | hs
    · exact (hok s (List.mem_of_mem_take hs)).nl
    · exact h3 s hs) (by omega)
  rw [← h1] at hJ
  have hv : (jst other).1 = mk ((l.take a ++ [b] ++ l.drop (a + 1)).take q) := by
    rw [← hQ, List.take_append_of_le_length (by omega), List.take_of_length_le (by omega), ← h4, ← h1, mk_of]
  have hfin : (mk (l.take a ++ [b] ++ l.drop (a + 1))).extract 0 q = (jst other).1 := by rw [hv, mk_ex]; rfl
  refine Ev.step (f := fun k => (impl_RecoverJournal.f k (mk (l.take a ++ [b] ++ l.drop (a + 1)))).bind fun t => (impl_JournalOf.f k t.1).bind fun u => if t.2.2 = true then (if u.2 = true then (if t.2.1 ≥ (n : Int) then (if t.2.1 ≤ ((mk (l.take a ++ [b] ++ l.drop (a + 1))).size : Int) then (if 0 ≤ t.2.1 then some (u.1.toList == ((mk (l.take a ++ [b] ++ l.drop (a + 1))).extract 0 t.2.1.toNat).toList) else none) else some false) else some false) else some false) else some false) (fun k => ?_) (Ev.bind hR (Ev.bind hJ ?_))
  · simp only [laws_FnJournal.l1]
    rw [if_neg (by omega), if_pos (by omega), if_pos (by rw [mk_size]; omega), hz]
    simp only [Option.bind_some]
    rw [hb, e1, Int.toNat_natCast, Int.toNat_natCast, x0, x2, app, app, if_pos (by rw [mk_size, mk_size, List.length_take]; simp; omega), if_pos (by omega), if_pos (by rw [mk_size]; omega), if_pos (by rw [mk_size, mk_size]; simp; omega)]
  · simp only [if_true]
    rw [if_pos (by omega), if_pos (by rw [mk_size, hlen]; omega), if_pos (by omega), Int.toNat_natCast, hfin, beq_self_eq_true]
    exact Ev.now _
theorem ev_same (n : Nat) (hn : n = (flat (jl 0 (L.take w))).length) : ∀ (d i : Nat), i + d = w → Ev (fun k => laws_FnJournal.l1 k x1 L (mk (flat (jl 0 L))) (a : Int) (L.take w) (n : Int) (w : Int) (i : Int)) true
  | 0, i, hi => by
    obtain rfl : i = w := by omega
    exact ev_bent hu L hL6 hok a ha hl4 i r hw hr hr10 hcnt n hn
  | d + 1, i, hi => by
    have ih := ev_same n hn d (i + 1) (by omega)
    have hlt : (L.take w).length = w := by rw [List.length_take]; omega
    have e : rdOf ByteArray.empty (L.take w) (i : Int) = rdOf ByteArray.empty L (i : Int) := by
      simp only [rdOf, Int.toNat_natCast, List.getD_eq_getElem?_getD, List.getElem?_take]
      rw [if_pos (by omega)]
    have d1 : (i : Int) < (w : Int) := by omega
    have d2 : (i : Int) < ((L.take w).length : Int) := by omega
    have d3 : (i : Int) < (L.length : Int) := by omega
    refine Ev.step (fun k => ?_) ih
    have hwr : wrap64 ((i : Int) + 1) = ((i + 1 : Nat) : Int) := by rw [w64' (by omega) (by omega)]; rfl
    simp only [laws_FnJournal.l1]
    rw [if_pos d1, if_pos (Int.natCast_nonneg i), if_pos d2, if_pos d3, e, if_pos rfl, hwr]
theorem ev_count (n : Nat) (hn : n = (flat (jl 0 (L.take w))).length) : ∀ (d i c : Nat), i + d = a → c = ((flat (jl 0 L)).take i).count 10 → Ev (fun k => laws_FnJournal.l0 k x1 L (mk (flat (jl 0 L))) (a : Int) (L.take w) (n : Int) true (jst (L.take w)).1 true (c : Int) (i : Int)) true
  | 0, i, c, hi, hc => by
    obtain rfl : i = a := by omega
    have hcw : c = w := by rw [hc, hcnt]
    subst hcw
    have hna : n ≤ i := by
      have h1 : ((flat (jl 0 L)).take i).length = i := by rw [List.length_take]; omega
      rw [hr, List.length_append] at h1
      omega
    have hlt : (L.take c).length = c := by rw [List.length_take]; omega
    have he : (mk (flat (jl 0 L))).extract 0 n = (jst (L.take c)).1 := by
      rw [mk_ex]
      show mk ((flat (jl 0 L)).take n) = _
      have h2 : ((flat (jl 0 L)).take i).take n = (flat (jl 0 L)).take n := by rw [List.take_take, Nat.min_eq_left hna]
      rw [← h2, hr, List.take_append_of_le_length (by omega), List.take_of_length_le (by omega), ← jst_list, mk_of]
    refine Ev.step (f := fun k => laws_FnJournal.j1 k x1 L (mk (flat (jl 0 L))) (i : Int) (L.take c) (n : Int) (c : Int) ((jst (L.take c)).1.toList != ((mk (flat (jl 0 L))).extract 0 n).toList)) (fun k => ?_) ?_
    · simp only [laws_FnJournal.l0]
      rw [if_neg (by omega), if_pos trivial, if_pos trivial, if_pos (by omega), if_neg (by omega), if_neg (by omega), if_pos (by omega), if_pos (by rw [mk_size]; omega), Int.toNat_natCast]
    · rw [he, bne_self_eq_false]
      refine Ev.step (fun k => ?_) (ev_same hu L hL6 hok i ha hl4 c r hw hr hr10 hcnt n hn c 0 (by omega))
      simp only [laws_FnJournal.j1]
      rw [if_neg (by decide)]; rfl
  | d + 1, i, c, hi, hc => by
    have hil : i < (flat (jl 0 L)).length := by omega
    have hbt := bt_mk (flat (jl 0 L)) i hil
    have htk : ((flat (jl 0 L)).take (i + 1)).count 10 = c + (if (flat (jl 0 L))[i] = 10 then 1 else 0) := by
      rw [List.take_succ_eq_append_getElem hil, List.count_append, ← hc, List.count_singleton]
      congr 1
      by_cases q : (flat (jl 0 L))[i] = 10
      · simp [q]
      · simp [q]
    have hci : c ≤ i := by rw [hc]; exact Nat.le_trans List.count_le_length (by rw [List.length_take]; omega)
    have d1 : (i : Int) < (a : Int) := by omega
    have d2 : (i : Int) < ((mk (flat (jl 0 L))).size : Int) := by rw [mk_size]; omega
    by_cases q : (flat (jl 0 L))[i] = 10
    · rw [if_pos q] at htk
      have ih := ev_count n hn d (i + 1) (c + 1) (by omega) htk.symm
      have w1 : wrap64 ((i : Int) + 1) = ((i + 1 : Nat) : Int) := by rw [w64' (by omega) (by omega)]; rfl
      have W1 := Aside0.mk w1
      clear w1
      have w2 : wrap64 ((c : Int) + 1) = ((c + 1 : Nat) : Int) := by rw [w64' (by omega) (by omega)]; rfl
      refine Ev.step (fun k => ?_) ih
      simp only [laws_FnJournal.l0]
      rw [if_pos d1, if_pos (Int.natCast_nonneg i), if_pos d2, hbt, q, if_pos (show ((UInt8.toNat 10 : Nat) : Int) = 10 from rfl), W1.out, w2]
    · rw [if_neg q] at htk
      have ih := ev_count n hn d (i + 1) c (by omega) htk.symm
      have w1 : wrap64 ((i : Int) + 1) = ((i + 1 : Nat) : Int) := by rw [w64' (by omega) (by omega)]; rfl
      have hq : ¬ (((flat (jl 0 L))[i].toNat : Int) = 10) := fun z => q (UInt8.toNat_inj.1 (show (flat (jl 0 L))[i].toNat = 10 by omega))
      refine Ev.step (fun k => ?_) ih
      simp only [laws_FnJournal.l0]
      rw [if_pos d1, if_pos (Int.natCast_nonneg i), if_pos d2, hbt, if_neg hq, w1]
end
theorem FnJournal : laws_FnJournal.Pure := by
  intro x0 x1 w0 w1
  refine Ev.rounds ?_
  show Ev (fun k => laws_FnJournal.f k x0 x1) true
  unfold laws_FnJournal.f
  obtain ⟨t, ht, hlen⟩ := long_eq x0 x1
  simp only [ht, Option.bind_some]
  cases t
  · simp only [Bool.false_eq_true, if_false]
    have u0 : U8 x0 := w0.2
    have u1 : U8 x1 := w1.2
    obtain ⟨N, V, hv, hs⟩ := b10Scope u1
    obtain ⟨L, hL6, hok, hlines⟩ := b10Lines (V := V) u0 hv.nm hv.six
    refine Ev.bind hs ?_
    refine Ev.bind hlines ?_
    have hz : (jst L).1.size ≤ 4000 := by have := jst_small L (fun s h => (hok s h).2); omega
    refine Ev.bind (ev_journal (fun s h => (hok s h).nl) hz) ?_
    simp only [if_true]
    by_cases c : ((jst L).1.size : Int) = 0
    · simp only [if_pos c]
      have h3 := three_le L
      have h4 := three_len L
      have hl0 : L.length = 0 := by omega
      rw [hl0]
      exact Ev.now _
    · simp only [if_neg c]
      obtain ⟨x, hx, x0', x1'⟩ := b10At_eq u1 0 256 (by omega) (by omega)
      obtain ⟨y, hy, y0, y1⟩ := b10At_eq u1 1 256 (by omega) (by omega)
      have e1 : wrap64 (wrap64 (x * 256) + y) = x * 256 + y := by rw [w64 (x := x * 256) (by omega) (by omega), w64 (by omega) (by omega)]
      simp only [hx, hy, Option.bind_some, e1]
      have hT : (jst L).1 = mk (flat (jl 0 L)) := by rw [← jst_list, mk_of]
      have hTs : (jst L).1.size = (flat (jl 0 L)).length := by rw [hT, mk_size]
      rw [tmod_pos _ _ (by omega)]
      obtain ⟨A, hA⟩ : ∃ A, (x * 256 + y) % ((jst L).1.size : Int) = A := ⟨_, rfl⟩
      have A0 : 0 ≤ A := by rw [← hA]; exact Int.emod_nonneg _ c
      have A1 : A < ((jst L).1.size : Int) := by rw [← hA]; exact Int.emod_lt_of_pos _ (by omega)
      rw [hA]
      obtain ⟨a, rfl⟩ := Int.eq_ofNat_of_zero_le A0
      have c1 : ((a : Nat) : Int) ≤ ((jst L).1.size : Int) := by omega
      simp only [if_pos A0, if_pos c1, Int.toNat_natCast]
      rw [hT]
      obtain ⟨w, r, h1, h2, h3, h4⟩ := take_flat (jl 0 L) a (jl_no L 0 (by omega) (by omega) (fun s hs => (hok s hs).nl))
      rw [jl_len] at h1
      rw [jl_take] at h2
      have xa : (mk (flat (jl 0 L))).extract 0 a = mk ((flat (jl 0 L)).take a) := by rw [mk_ex]; rfl
      have hno : ∀ x ∈ jl 0 (L.take w), (10 : UInt8) ∉ x := jl_no _ 0 (by omega) (by omega) (fun s hs => (hok s (List.mem_of_mem_take hs)).nl)
      have hrec : recL (splitL ((flat (jl 0 L)).take a)).1 [] 0 0 = (L.take w, (((flat (jl 0 (L.take w))).length : Nat) : Int), true) := by
        have e := split_flat (jl 0 (L.take w)) r hno
        rw [h2, e, split_none (sp_nil r 10 h3), recL_app _ _ _ _ _ (by omega) (by omega), recL, List.nil_append, Int.zero_add]
      have hR := ev_recover ((flat (jl 0 L)).take a) (by rw [List.length_take]; omega)
      rw [hrec] at hR
      rw [xa]
      refine Ev.bind hR ?_
      have hz2 : (jst (L.take w)).1.size ≤ 4000 := by have := jst_mono (L.take w) (L.drop w); rw [List.take_append_drop] at this; omega
      refine Ev.bind (ev_journal (l := L.take w) (fun s h => (hok s (List.mem_of_mem_take h)).nl) hz2) ?_
      have := ev_count u1 L hL6 hok a (by omega) (by omega) w r h1 h2 h3 h4 _ rfl a 0 0 (by omega) (by simp)
      exact this
  · simp only [if_true]; exact Ev.now _
end Go.Proofs.YtjpjlobpglmoiaaDoor.Pure
