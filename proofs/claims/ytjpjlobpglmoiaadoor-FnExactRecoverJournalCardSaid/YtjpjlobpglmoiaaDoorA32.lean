-- Printed by this session's oprint.py through the kit's printer.
import Derived.Test.YtjpjlobpglmoiaaDoorA0
import Derived.Test.YtjpjlobpglmoiaaDoorA36
import Derived.Test.YtjpjlobpglmoiaaDoorA37
import Derived.Lib.ItoaNum
import Derived.Laws.BytesArg
import Derived.Deep.RegionHeld3
namespace Go.Proofs.YtjpjlobpglmoiaaDoor.A
open Go.RowKit Go.Proofs.YtjpjlobpglmoiaaDoorW.PrintWords Go.Proofs.YtjpjlobpglmoiaaDoorW.PrintLast Go.Proofs.YtjpjlobpglmoiaaDoorW.PrintMore
attribute [local go_sem] max2_int min2_int max_two min_two max_three min_three max_four min_four   -- for this text's walks alone
set_option linter.unusedVariables false
set_option linter.unusedSimpArgs false

/-! ### spec_l11Journal: function 32 -/
-- given: proved by hand (journal.tpl)
def chkL (n : Int) (l : List UInt8) : Int := l.foldl (fun n b => (307 * n + (b.toNat : Int) + 13) % 64901) n
def chk (n : Int) (s : ByteArray) : Int := chkL n s.data.toList
theorem chkL_le : ∀ (l : List UInt8) (n : Int), 0 ≤ n → n ≤ 64900 → 0 ≤ chkL n l ∧ chkL n l ≤ 64900
  | [], n, h0, h1 => ⟨h0, h1⟩
  | b :: l, n, h0, h1 => by
    show 0 ≤ chkL ((307 * n + (b.toNat : Int) + 13) % 64901) l ∧ _
    exact chkL_le l _ (by omega) (by omega)
theorem bt_val (s : ByteArray) (i : Nat) (h : i < s.size) : bt s (i : Int) = ((s.data.toList[i]'(by simpa using h)).toNat : Int) := by
  unfold bt
  rw [Int.toNat_natCast, dif_pos h]
  rfl
theorem check_loop (s : ByteArray) (hs : s.size ≤ 9223372036854775806) : ∀ (d i : Nat) (n : Int), i + d = s.size → 0 ≤ n → n ≤ 64900 → ∀ K, spec_l01Check.l0 (K + d + 1) n s (i : Int) = some (chkL n (s.data.toList.drop i))
  | 0, i, n, hi, h0, h1, K => by
    have hl : s.data.toList.length = s.size := by simp
    simp only [spec_l01Check.l0]
    rw [if_neg (by omega), List.drop_of_length_le (by omega)]; rfl
  | d + 1, i, n, hi, h0, h1, K => by
    have hl : s.data.toList.length = s.size := by simp
    have hb : (s.data.toList[i]'(by omega)).toNat < 256 := (s.data.toList[i]'(by omega)).toNat_lt
    have ih := check_loop s hs d (i + 1) ((307 * n + ((s.data.toList[i]'(by omega)).toNat : Int) + 13) % 64901) (by omega) (by omega) (by omega) K
    show spec_l01Check.l0 (K + d + 1 + 1) n s (i : Int) = _
    obtain ⟨M, hM⟩ : ∃ M, K + d + 1 = M := ⟨_, rfl⟩
    rw [hM] at ih ⊢
    simp only [spec_l01Check.l0]
    rw [if_pos (by omega), if_pos (by omega), bt_val s i (by omega), List.drop_eq_getElem_cons (by omega)]
    obtain ⟨x, hx⟩ : ∃ x, (s.data.toList[i]'(by omega)) = x := ⟨_, rfl⟩
    rw [hx] at ih hb ⊢
    rw [show wrap64 (307 * n) = 307 * n by unfold wrap64; omega, show wrap64 (x.toNat : Int) = (x.toNat : Int) by unfold wrap64; omega, show wrap64 (307 * n + (x.toNat : Int)) = 307 * n + (x.toNat : Int) by unfold wrap64; omega,
      show wrap64 (307 * n + (x.toNat : Int) + 13) = 307 * n + (x.toNat : Int) + 13 by unfold wrap64; omega, Int.tmod_eq_emod_of_nonneg (by omega), show wrap64 ((i : Int) + 1) = ((i + 1 : Nat) : Int) by unfold wrap64; omega, ih]
    rfl
theorem check_is (s : ByteArray) (hs : s.size ≤ 9223372036854775806) (n : Int) (h0 : 0 ≤ n) (h1 : n ≤ 64900) : ∃ k, spec_l01Check.f k n s = some (chk n s) := ⟨_, check_loop s hs s.size 0 n (by omega) h0 h1 0⟩
/-- The decimal numeral. -/
def dec (n : Int) : ByteArray := ⟨(Lib.itoa n).toArray⟩
def lowD (m : Nat) : List Int := if h : m = 0 then [] else ((48 + m % 10 : Nat) : Int) :: lowD (m / 10)
termination_by m
decreasing_by omega
theorem lowD_len (m : Nat) : (lowD m).length ≤ m := by
  induction m using Nat.strongRecOn with
  | _ m ih =>
    unfold lowD
    split
    · simp
    · have := ih (m / 10) (by omega); simp only [List.length_cons]; omega
theorem lowD_dec (m : Nat) (hm : m ≠ 0) : (lowD m).reverse.map (fun n => UInt8.ofNat n.toNat) = Lib.decDigits m := by
  induction m using Nat.strongRecOn with
  | _ m ih =>
    unfold lowD
    rw [dif_neg hm, Lib.decDigits]
    by_cases c : m < 10
    · rw [dif_pos c]
      unfold lowD
      rw [dif_pos (by omega)]
      simp only [List.reverse_cons, List.reverse_nil, List.nil_append, List.map_cons, List.map_nil, Int.toNat_natCast]
      rw [Nat.mod_eq_of_lt c]
    · rw [dif_neg c, List.reverse_cons, List.map_append, ih (m / 10) (by omega) (by omega)]
      simp only [List.map_cons, List.map_nil, Int.toNat_natCast]
theorem dec_l1 (x : List Int) (hx : x.length ≤ 1000000) : ∀ (i : Nat) (y : List Int), i ≤ x.length → y.length + i ≤ 1000000 → ∀ K, spec_l01Dec.l1 (K + i + 1) x y ((i : Int) - 1) = some (strOfNums (y ++ (x.take i).reverse))
  | 0, y, hi, hy, K => by
    simp only [spec_l01Dec.l1]
    rw [if_neg (by omega)]; simp
  | i + 1, y, hi, hy, K => by
    have ih := dec_l1 x hx i (y ++ [x[i]'(by omega)]) (by omega) (by simp; omega) K
    show spec_l01Dec.l1 (K + i + 1 + 1) x y (((i + 1 : Nat) : Int) - 1) = _
    obtain ⟨M, hM⟩ : ∃ M, K + i + 1 = M := ⟨_, rfl⟩
    rw [hM] at ih ⊢
    rw [show ((i + 1 : Nat) : Int) - 1 = (i : Int) by omega]
    simp only [spec_l01Dec.l1]
    have hr : rd x (i : Int) = x[i]'(by omega) := by
      have hlt : i < x.length := by omega
      simp [rd, hlt]
    rw [if_pos (by omega), if_pos (by omega), if_pos (by omega), if_pos (by omega), hr, show wrap64 ((i : Int) - 1) = (i : Int) - 1 by unfold wrap64; omega, ih]
    rw [List.take_succ_eq_append_getElem (by omega), List.reverse_append]
    simp
theorem dec_l0 (n : Int) (hn : 0 ≤ n) : ∀ (m : Nat) (acc : List Int), m ≤ 100000 → acc.length + m ≤ 200000 → Ev (fun k => spec_l01Dec.l0 k n acc (m : Int)) (strOfNums ((acc ++ lowD m).reverse)) := by
  intro m
  induction m using Nat.strongRecOn with
  | _ m ih =>
    intro acc hm hl
    by_cases c : m = 0
    · subst c
      have e : lowD 0 = [] := by unfold lowD; rfl
      rw [e, List.append_nil]
      refine Ev.step (f := fun k => spec_l01Dec.j1 k acc) (fun k => by simp only [spec_l01Dec.l0]; rw [if_pos (show ((0 : Nat) : Int) = 0 from rfl), if_neg (by omega)]) ?_
      refine Ev.step (f := fun k => spec_l01Dec.l1 k acc [] ((acc.length : Int) - 1)) (fun k => by simp only [spec_l01Dec.j1]; rw [show wrap64 ((acc.length : Int) - 1) = (acc.length : Int) - 1 by unfold wrap64; omega]) ?_
      refine ⟨acc.length + 1, fun k hk => ?_⟩
      have h := dec_l1 acc (by omega) acc.length [] (Nat.le_refl _) (by simp; omega) (k - (acc.length + 1))
      rw [show k - (acc.length + 1) + acc.length + 1 = k by omega, List.nil_append, List.take_length] at h
      exact h
    · have e : lowD m = ((48 + m % 10 : Nat) : Int) :: lowD (m / 10) := by rw [lowD, dif_neg c]
      have h := ih (m / 10) (by omega) (acc ++ [((48 + m % 10 : Nat) : Int)]) (by omega) (by simp; omega)
      rw [List.append_assoc] at h
      rw [e]
      refine Ev.step (f := fun k => spec_l01Dec.l0 k n (acc ++ [((48 + m % 10 : Nat) : Int)]) ((m / 10 : Nat) : Int)) (fun k => ?_) h
      simp only [spec_l01Dec.l0]
      have hd : Int.tmod (m : Int) 10 = ((m % 10 : Nat) : Int) := by rw [Int.tmod_eq_emod_of_nonneg (by omega)]; omega
      have hq : Int.tdiv (m : Int) 10 = ((m / 10 : Nat) : Int) := by rw [Int.tdiv_eq_ediv_of_nonneg (by omega)]; omega
      rw [if_neg (by omega), hd, hq, if_neg (by omega), if_pos (by omega), show wrap64 (((m / 10 : Nat) : Int)) = ((m / 10 : Nat) : Int) by unfold wrap64; omega, show wrap64 (48 + ((m % 10 : Nat) : Int)) % 256 = ((48 + m % 10 : Nat) : Int) by unfold wrap64; omega]
theorem dec_is (n : Int) (h0 : 0 ≤ n) (h1 : n ≤ 64900) : ∃ k, spec_l01Dec.f k n = some (dec n) := by
  obtain ⟨m, rfl⟩ := Int.eq_ofNat_of_zero_le h0
  have hi : dec (m : Int) = ⟨(Lib.decDigits m).toArray⟩ := by unfold dec Lib.itoa; rw [if_neg (by omega), Int.toNat_natCast]
  by_cases c : m = 0
  · subst c
    refine ⟨0, ?_⟩
    unfold spec_l01Dec.f
    rw [if_pos (show ((0 : Nat) : Int) = 0 from rfl), hi, Lib.decDigits_one (by decide)]; rfl
  · have h := dec_l0 (m : Int) (by omega) m [] (by omega) (by simp; omega)
    obtain ⟨k, hk⟩ := h.rounds
    refine ⟨k, ?_⟩
    unfold spec_l01Dec.f
    rw [if_neg (by omega)]
    refine hk.trans ?_
    rw [hi, List.nil_append]
    unfold strOfNums
    rw [lowD_dec m c]
theorem nDigits_le (u : Nat) (h : u < 100000) : Lib.nDigits u ≤ 5 := by
  rw [Lib.nDigits]; split
  · omega
  · rw [Lib.nDigits]; split
    · omega
    · rw [Lib.nDigits]; split
      · omega
      · rw [Lib.nDigits]; split
        · omega
        · rw [Lib.nDigits]; split
          · omega
          · omega
theorem nDigits_pos (u : Nat) : 1 ≤ Lib.nDigits u := by rw [Lib.nDigits]; split <;> omega
theorem dec_size (n : Int) (h0 : 0 ≤ n) (h1 : n ≤ 64900) : 1 ≤ (dec n).size ∧ (dec n).size ≤ 5 := by
  obtain ⟨m, rfl⟩ := Int.eq_ofNat_of_zero_le h0
  have hi : (dec (m : Int)).size = Lib.nDigits m := by
    unfold dec Lib.itoa; rw [if_neg (by omega), Int.toNat_natCast]
    simp [ByteArray.size, Lib.decDigits_length]
  rw [hi]
  exact ⟨nDigits_pos m, nDigits_le m (by omega)⟩
/-- A line of a journal behind a check number. -/
def jline (n : Int) (s : ByteArray) : ByteArray := ((dec (chk n s) ++ (⟨#[32]⟩ : ByteArray)) ++ s) ++ (⟨#[10]⟩ : ByteArray)
def jstep (st : ByteArray × Int) (s : ByteArray) : ByteArray × Int := (st.1 ++ jline st.2 s, chk st.2 s)
def jst (l : List ByteArray) : ByteArray × Int := l.foldl jstep (⟨#[]⟩, 0)
theorem jst_snoc (l : List ByteArray) (s : ByteArray) : jst (l ++ [s]) = jstep (jst l) s := by unfold jst; rw [List.foldl_append]; rfl
theorem size_app (a b : ByteArray) : (a ++ b).size = a.size + b.size := by simp
theorem jline_size (n : Int) (s : ByteArray) (h0 : 0 ≤ n) (h1 : n ≤ 64900) : s.size + 3 ≤ (jline n s).size ∧ (jline n s).size ≤ s.size + 7 := by
  have hc := chkL_le s.data.toList n h0 h1
  have hd := dec_size (chk n s) hc.1 hc.2
  unfold jline
  rw [size_app, size_app, size_app]
  have e1 : (⟨#[32]⟩ : ByteArray).size = 1 := rfl
  have e2 : (⟨#[10]⟩ : ByteArray).size = 1 := rfl
  omega
theorem take_snoc' {l : List ByteArray} {k : Nat} (h : k < l.length) : l.take (k + 1) = l.take k ++ [l[k]] := List.take_succ_eq_append_getElem h
theorem jst_ok (l : List ByteArray) (hs : ∀ s ∈ l, s.size ≤ 1048576) : ∀ k, k ≤ l.length → (0 ≤ (jst (l.take k)).2 ∧ (jst (l.take k)).2 ≤ 64900) ∧ (jst (l.take k)).1.size ≤ k * 1048583
  | 0, _ => ⟨⟨Int.le_refl 0, by show (0 : Int) ≤ 64900; decide⟩, by rw [Nat.zero_mul]; exact Nat.le_refl 0⟩
  | k + 1, hk => by
    obtain ⟨⟨a0, a1⟩, a2⟩ := jst_ok l hs k (by omega)
    rw [take_snoc' (show k < l.length by omega), jst_snoc]
    have hx := hs _ (List.getElem_mem (show k < l.length by omega))
    have hl := jline_size (jst (l.take k)).2 (l[k]'(by omega)) a0 a1
    refine ⟨chkL_le _ _ a0 a1, ?_⟩
    show ((jst (l.take k)).1 ++ jline (jst (l.take k)).2 (l[k]'(by omega))).size ≤ _
    rw [size_app]; omega
def spec_l11Journal.f (l0 : List ByteArray) : Option ByteArray := if l0.length ≤ 1048576 ∧ (∀ s ∈ l0, s.size ≤ 1048576) then some (jst l0).1 else none
theorem below_drawn' {w w1 w2 : World} (h : Below w.heap.size w w1) (k : Drawn0 w1 w2) : Below w.heap.size w w2 := by obtain ⟨m, rfl⟩ := k; exact pw_below_drewN h m
set_option maxHeartbeats 3200000 in
set_option maxRecDepth 100000 in
theorem spec_l11Journal.calls (A0 : Option Addr) (c0 : Nat) (l0 : List ByteArray) (r : ByteArray) (w : World) (hr0 : Kd.C Kd.string w A0 l0.length l0) (hc0 : l0.length ≤ c0) (h : spec_l11Journal.f l0 = some r) :
    Calls Tryd.prog 32 #[.slice A0 l0.length c0] w fun e w' => e = .returned (.string r) ∧ Below w.heap.size w w' := by
  unfold spec_l11Journal.f at h
  by_cases c : l0.length ≤ 1048576 ∧ (∀ s ∈ l0, s.size ≤ 1048576)
  · rw [if_pos c] at h
    have h := Option.some.inj h
    have HR0 := Aside0.mk hr0
    have HRS := Aside0.mk h
    have hlen := c.1
    have HS := Aside0.mk c.2
    have HOK := Aside0.mk (jst_ok l0 c.2)
    clear hr0 h c
    go_enter Tryd.func32, Tryd.ntmps32
    go_wp2
    go_loopw [3, 4, 5] (fun v3 v4 v5 wr => ∃ (k : Nat) (out : ByteArray) (n : Int), k ≤ l0.length ∧ v5 = .int .i64 (k : Int) ∧ v3 = .string out ∧ v4 = .int .i64 n ∧ Aside0 (jst (l0.take k) = (out, n)) ∧ Aside0 (Below w.heap.size w wr)) (fun _ _ v5 _ => l0.length - (intOf v5).toNat)
    case atStart => exact ⟨0, ⟨#[]⟩, 0, Nat.zero_le _, rfl, rfl, rfl, ⟨rfl⟩, ⟨Below.refl _ _⟩⟩
    case round =>
      obtain ⟨k, out, n, hk, rfl, rfl, rfl, HJ, HB⟩ := hrel
      by_cases hlt : k < l0.length
      · obtain ⟨ad, rfl, hx0⟩ := Kd.at_string (Kd.C_below HR0.out HB.out) (k : Int) (by omega) (by omega)
        have hn : (rdOf ByteArray.empty l0 (k : Int)) = l0[k]'hlt := by simp [rdOf, hlt]
        obtain ⟨s, hs⟩ : ∃ s, l0[k]'hlt = s := ⟨_, rfl⟩
        have hsz : s.size ≤ 1048576 := by rw [← hs]; exact HS.out _ (List.getElem_mem hlt)
        rw [Int.toNat_natCast, hn, hs] at hx0
        have hok := HOK.out k hk
        rw [HJ.out] at hok
        obtain ⟨⟨n0, n1⟩, o1⟩ := hok
        dsimp only at n0 n1 o1
        have hnext : jst (l0.take (k + 1)) = (out ++ jline n s, chk n s) := by rw [take_snoc' hlt, jst_snoc, HJ.out, hs]; rfl
        have hc := chkL_le s.data.toList n n0 n1
        obtain ⟨kc, hkc⟩ := check_is s (by omega) n n0 n1
        obtain ⟨m, hm⟩ : ∃ m, chk n s = m := ⟨_, rfl⟩
        rw [hm] at hkc hnext
        have hm0 : 0 ≤ m := by rw [← hm]; exact hc.1
        have hm1 : m ≤ 64900 := by rw [← hm]; exact hc.2
        obtain ⟨kd, hkd⟩ := dec_is m hm0 hm1
        have hds := dec_size m hm0 hm1
        have hjl : jline n s = ((dec m ++ (⟨#[32]⟩ : ByteArray)) ++ s) ++ (⟨#[10]⟩ : ByteArray) := by unfold jline; rw [hm]
        rw [hjl] at hnext
        obtain ⟨D, hD⟩ : ∃ D, dec m = D := ⟨_, rfl⟩
        rw [hD] at hkd hds hnext
        have q1 : D.size + 1 ≤ 9223372036854775807 := by omega
        have q2 : (D ++ (⟨#[32]⟩ : ByteArray)).size + s.size ≤ 9223372036854775807 := by rw [size_app]; have : (⟨#[32]⟩ : ByteArray).size = 1 := rfl; omega
        have q3 : ((D ++ (⟨#[32]⟩ : ByteArray)) ++ s).size + 1 ≤ 9223372036854775807 := by rw [size_app, size_app]; have : (⟨#[32]⟩ : ByteArray).size = 1 := rfl; omega
        have q4 : out.size + (((D ++ (⟨#[32]⟩ : ByteArray)) ++ s) ++ (⟨#[10]⟩ : ByteArray)).size ≤ 9223372036854775807 := by rw [size_app, size_app, size_app]; have : (⟨#[32]⟩ : ByteArray).size = 1 := rfl; have : (⟨#[10]⟩ : ByteArray).size = 1 := rfl; omega
        have u2 : D.size + 1 + s.size ≤ 9223372036854775807 := by omega
        have u3 : D.size + 1 + s.size + 1 ≤ 9223372036854775807 := by omega
        have u4 : out.size + (D.size + 1 + s.size + 1) ≤ 9223372036854775807 := by omega
        have cu2 := eq_true u2
        have eu2 := decide_eq_true u2
        have fu2 := eq_false (Nat.not_lt.2 u2)
        have cu3 := eq_true u3
        have eu3 := decide_eq_true u3
        have fu3 := eq_false (Nat.not_lt.2 u3)
        have cu4 := eq_true u4
        have eu4 := decide_eq_true u4
        have fu4 := eq_false (Nat.not_lt.2 u4)
        have c1 := eq_true q1
        have e1 := decide_eq_true q1
        have f1 := eq_false (Nat.not_lt.2 q1)
        have c2 := eq_true q2
        have e2 := decide_eq_true q2
        have f2 := eq_false (Nat.not_lt.2 q2)
        have c3 := eq_true q3
        have e3 := decide_eq_true q3
        have f3 := eq_false (Nat.not_lt.2 q3)
        have c4 := eq_true q4
        have e4 := decide_eq_true q4
        have f4 := eq_false (Nat.not_lt.2 q4)
        have HC := Aside0.mk hkc
        have HD := Aside0.mk hkd
        have HN := Aside0.mk hnext
        have i0 : (0 : Int) ≤ (k : Int) := by omega
        have i1 : (k : Int) < (l0.length : Int) := by omega
        clear hn hs hsz n0 n1 o1 hc hm hm0 hm1 hds hjl hD q1 q2 q3 q4 u2 u3 u4 hkc hkd hnext
        go_wp2_with (first
          | (go_at_call 36; refine (spec_l01Check.calls kc n s m _ HC.out).mono ?_; rintro e w1 ⟨rfl, hd⟩; have HX1 := Aside0.mk (show w1.cell? (ad.add k) = some (.string s) by obtain ⟨q, rfl⟩ := hd; exact hx0); have B1 := Aside0.mk (below_drawn' HB.out hd); clear hd hx0))
        go_region_held3 (fun w' => w'.cell? (ad.add k) = some (.string s))
          (first
            | exact HX2.out
            | exact HX1.out
            | go_keep)
          (first
            | (go_at_call 37; (with_reducible refine (spec_l01Dec.calls kd m D _ HD.out).mono ?_); rintro e w2 ⟨rfl, hb⟩; have HX2 := Aside0.mk ((hb.cell (World.block_lt_of_cell? w1.drew _ HX1.out)).trans HX1.out); have B2 := Aside0.mk (below_step (below_drew B1.out) hb); clear hb))
        all_goals (try go_wp2)
        refine ⟨⟨k + 1, _, _, by omega, by go_num, rfl, rfl, HN, B2⟩, by simp [intOf]; omega⟩
      · obtain rfl : k = l0.length := by omega
        have hf := HJ.out
        rw [List.take_length] at hf
        have HF := Aside0.mk (show out = r by rw [← HRS.out, hf])
        go_wp2
        go_ret
        exact ⟨by rw [← HF.out]; rfl, HB.out⟩
  · rw [if_neg c] at h
    exact absurd h (by simp)

end Go.Proofs.YtjpjlobpglmoiaaDoor.A
