/- Texts of this claim, put together by this session's pack2.py: each part is introduced by its own comment. No conditions. -/
import Derived.Test.YtdgohcdemnmieaaDoorZ22
import Derived.Test.YtdgohcdemnmieaaDoorWWords
import Derived.Deep.Slices
import Derived.ChangeArms
import Derived.WalkKit
import Derived.ProofKit
import Derived.OpenShut
import Derived.ShutString
import Derived.ChangeOld
import Derived.Below
import Derived.SizedLaws
import Derived.Test.YtdgohcdemnmieaaDoorWEqStruct
import Derived.Maps.Own
import Derived.MapKept
import Derived.ChangeMaps5
import Derived.ArgAppend
import Derived.Lib.SlBytesConst
import Derived.KernelRfl
-- Printed by this session's oprint.py through the kit's printer.
namespace Go.Proofs.YtdgohcdemnmieaaDoor.A
open Go.RowKit Go.Proofs.YtdgohcdemnmieaaDoorW.PrintWords Go.Proofs.YtdgohcdemnmieaaDoorW.PrintLast Go.Proofs.YtdgohcdemnmieaaDoorW.PrintMore
attribute [local go_sem] max2_int min2_int max_two min_two max_three min_three max_four min_four   -- for this text's walks alone
set_option linter.unusedVariables false
set_option linter.unusedSimpArgs false

theorem eqA35 (d : Nat) (w : World) (x0 y0 : Int) (x1 y1 : Int) :
    (Op.equalIn (d + 2) 35 (.agg #[.int .i64 x0, .int .i64 x1]) (.agg #[.int .i64 y0, .int .i64 y1])).run Tryd.prog w = .ok (x0 == y0 && (x1 == y1)) w := by
  refine eqA_of Tryd.underlying35 (by kernel_rfl) ?_
  refine eqf_cons (by rfl) (by go_simp; rfl) (by go_simp; rfl) (by go_simp) ?_
  exact eqf_last (by rfl) (by go_simp; rfl) (by go_simp; rfl) (by go_simp)
end Go.Proofs.YtdgohcdemnmieaaDoor.A
/- What the reference draws: bytes, numbers, orders; trimmed texts. No conditions. -/
namespace Go.Proofs.YtdgohcdemnmieaaDoor.Pure
set_option linter.unusedVariables false
set_option linter.unusedSimpArgs false
open Go.RowKit Go.Proofs.YtdgohcdemnmieaaDoor.A Go.Proofs.YtdgohcdemnmieaaDoorW.PrintWords Go.Proofs.YtdgohcdemnmieaaDoorW.PrintLast Go.Proofs.YtdgohcdemnmieaaDoorW.PrintMore
theorem w64' {x : Int} (h0 : -9223372036854775808 ≤ x) (h1 : x < 9223372036854775808) : wrap64 x = x := by unfold wrap64; omega
def U8 (l : List Int) : Prop := ∀ x ∈ l, (Lit.int .u8 x).wf = true
theorem u8_rd {l : List Int} (h : U8 l) (i : Int) : 0 ≤ rd l i ∧ rd l i ≤ 255 := by
  unfold rd
  rw [List.getD_eq_getElem?_getD]
  rcases hq : l[i.toNat]? with _ | x
  · simp
  · have hm := h x (List.mem_of_getElem? hq)
    simp only [Lit.wf, Bool.and_eq_true, decide_eq_true_eq] at hm
    have e1 : IntKind.u8.min = 0 := rfl
    have e2 : IntKind.u8.max = 255 := rfl
    simp only [Option.getD_some]; omega
theorem b10At_eq {l : List Int} (h : U8 l) (k n : Int) (hk : 0 ≤ k ∧ k ≤ 1000000) (hn : 1 ≤ n) : ∃ x, laws_b10At.f l k n = some x ∧ 0 ≤ x ∧ x < n := by
  unfold laws_b10At.f
  by_cases h1 : n ≤ 1
  · exact ⟨0, by rw [if_pos h1], by omega, by omega⟩
  · rw [if_neg h1]
    by_cases h2 : k < (l.length : Int)
    · have hr := u8_rd h k
      rw [if_pos h2, if_pos hk.1, if_neg (by omega), w64' (by omega) (by omega), Int.tmod_eq_emod_of_nonneg hr.1]
      exact ⟨_, rfl, Int.emod_nonneg _ (by omega), Int.emod_lt_of_pos _ (by omega)⟩
    · rw [if_neg h2, if_neg (by omega), w64' (x := k * 37) (by omega) (by omega), w64' (by omega) (by omega), Int.tmod_eq_emod_of_nonneg (by omega)]
      exact ⟨_, rfl, Int.emod_nonneg _ (by omega), Int.emod_lt_of_pos _ (by omega)⟩
theorem long_eq (l0 l1 : List Int) : ∃ t, laws_b10Long.f l0 l1 = some t ∧ (t = false → l0.length ≤ 1048576 ∧ l1.length ≤ 1048576) := by
  unfold laws_b10Long.f
  by_cases c : (l0.length : Int) > 1048576
  · exact ⟨true, if_pos c, fun z => by cases z⟩
  · rw [if_neg c]
    refine ⟨_, rfl, fun z => ?_⟩
    have := of_decide_eq_false z
    omega
theorem w64 {x : Int} (h1 : -9223372036854775808 ≤ x) (h2 : x ≤ 9223372036854775807) : wrap64 x = x := by unfold wrap64; omega
theorem wu64 (n : Int) : IntKind.u64.wrap n = n % 18446744073709551616 := by simp [IntKind.wrap, IntKind.bits, IntKind.signed]
theorem and255 (x : Int) (h0 : 0 ≤ x) (h1 : x < 16777216) : bits .and .u64 x 255 = x % 256 :=
  bits_mask .u64 24 (by decide) (fun n a b => by rw [wu64]; simp at b; omega) 8 (by decide) x h0 (by simpa using h1)
theorem tmod_pos (x n : Int) (h0 : 0 ≤ x) : Int.tmod x n = x % n := Int.tmod_eq_emod_of_nonneg h0

theorem next_eq {l : List Int} (h : U8 l) (at_ seed : Int) (h0 : 0 ≤ at_) (h1 : at_ ≤ 100000) : ∃ v s, spec_l00Src_next.f l at_ seed = some (v, at_ + 1, s) ∧ 0 ≤ v ∧ v ≤ 255 := by
  unfold spec_l00Src_next.f
  have hr := u8_rd h at_
  have hw : wrap64 (at_ + 1) = at_ + 1 := w64 (by omega) (by omega)
  have hb : ∀ e : Int, 0 ≤ wrap64 (bits .and .u64 ((IntKind.u64.wrap e) / 1099511627776) 255) ∧ wrap64 (bits .and .u64 ((IntKind.u64.wrap e) / 1099511627776) 255) ≤ 255 := by
    intro e
    rw [wu64, and255 _ (by omega) (by omega), w64 (by omega) (by omega)]; omega
  rw [hw]
  by_cases c1 : at_ < (l.length : Int)
  · rw [if_pos c1, if_pos h0]
    split
    · exact ⟨_, _, rfl, by rw [w64 (by omega) (by omega)]; omega, by rw [w64 (by omega) (by omega)]; omega⟩
    · exact ⟨_, _, rfl, (hb _).1, (hb _).2⟩
  · rw [if_neg c1]
    split
    · exact ⟨_, _, rfl, by omega, by omega⟩
    · exact ⟨_, _, rfl, (hb _).1, (hb _).2⟩

theorem pick_small {l : List Int} (h : U8 l) (at_ seed n : Int) (h0 : 0 ≤ at_) (h1 : at_ ≤ 100000) (hn : 2 ≤ n) (hn' : n ≤ 200) : ∃ v s, spec_l00Src_pick.f l at_ seed n = some (v, at_ + 1, s) ∧ 0 ≤ v ∧ v < n := by
  obtain ⟨v, s, e, v0, v1⟩ := next_eq h at_ seed h0 h1
  refine ⟨v % n, s, ?_, Int.emod_nonneg _ (by omega), Int.emod_lt_of_pos _ (by omega)⟩
  unfold spec_l00Src_pick.f
  rw [if_neg (by omega), e]
  simp only [Option.bind_some]
  rw [if_neg (by omega), if_neg (by omega), tmod_pos _ _ v0]
theorem pick_any {l : List Int} (h : U8 l) (at_ seed n : Int) (h0 : 0 ≤ at_) (h1 : at_ ≤ 100000) (hn : 1 ≤ n) (hn' : n ≤ 200) : ∃ v a s, spec_l00Src_pick.f l at_ seed n = some (v, a, s) ∧ 0 ≤ v ∧ v < n ∧ at_ ≤ a ∧ a ≤ at_ + 1 := by
  by_cases c : n = 1
  · subst c
    refine ⟨0, at_, seed, ?_, by omega, by omega, by omega, by omega⟩
    unfold spec_l00Src_pick.f; rw [if_pos (by omega)]
  · obtain ⟨v, s, e, v0, v1⟩ := pick_small h at_ seed n h0 h1 (by omega) hn'
    exact ⟨v, at_ + 1, s, e, v0, v1, by omega, by omega⟩
theorem one_any {l : List Int} (h : U8 l) (at_ seed n : Int) (h0 : 0 ≤ at_) (h1 : at_ ≤ 100000) (hn : 1 ≤ n) (hn' : n ≤ 200) : ∃ v a s, spec_l00Src_one.f l at_ seed n = some (v, a, s) ∧ at_ ≤ a ∧ a ≤ at_ + 1 := by
  obtain ⟨v, a, s, e, -, -, a0, a1⟩ := pick_any h at_ seed n h0 h1 hn hn'
  refine ⟨v == 0, a, s, ?_, a0, a1⟩
  unfold spec_l00Src_one.f
  rw [e]; rfl
theorem drop_nil {p : UInt8 → Bool} : ∀ (l : List UInt8), l.dropWhile p = [] → l.all p = true
  | [], _ => rfl
  | x :: l, h => by
    rw [List.dropWhile_cons] at h
    cases hx : p x
    · rw [hx] at h; simp at h
    · rw [hx, if_pos rfl] at h
      rw [List.all_cons, hx, drop_nil l h]; rfl
theorem drop_head {p : UInt8 → Bool} : ∀ (l : List UInt8) (x : UInt8) (r : List UInt8), l.dropWhile p = x :: r → p x = false
  | [], _, _, h => by simp at h
  | y :: l, x, r, h => by
    rw [List.dropWhile_cons] at h
    cases hy : p y
    · rw [hy, if_neg (by decide)] at h
      injection h with h1 h2
      rw [← h1]; exact hy
    · rw [hy, if_pos rfl] at h
      exact drop_head l x r h
theorem drop_all {p : UInt8 → Bool} : ∀ (l : List UInt8), l.all p = true → l.dropWhile p = []
  | [], _ => rfl
  | x :: l, h => by
    rw [List.all_cons, Bool.and_eq_true] at h
    rw [List.dropWhile_cons, if_pos h.1]
    exact drop_all l h.2
theorem trim_nil (l cs : List UInt8) : (Lib.trimS l cs == []) = l.all (cs.contains ·) := by
  unfold Lib.trimS Lib.trimLeftS Lib.trimRightS
  cases h : l.all (cs.contains ·)
  · rw [beq_eq_false_iff_ne]
    intro h2
    have h3 := drop_nil _ h2
    cases hd : l.reverse.dropWhile (cs.contains ·) with
    | nil =>
      have h4 := drop_nil _ hd
      rw [List.all_reverse, h] at h4
      exact absurd h4 (by decide)
    | cons x r =>
      rw [hd, List.all_reverse, List.all_cons, drop_head _ x r hd, Bool.false_and] at h3
      exact absurd h3 (by decide)
  · rw [beq_iff_eq, drop_all l.reverse (by rw [List.all_reverse]; exact h)]
    rfl
def Ord (xs : List Int) : Prop := xs.length ≤ 60 ∧ ∀ x ∈ xs, x = 114 ∨ x = 115
theorem ord_snoc {acc : List Int} {y : Int} (h : ∀ x ∈ acc, x = 114 ∨ x = 115) (hy : y = 114 ∨ y = 115) : ∀ x ∈ acc ++ [y], x = 114 ∨ x = 115 := by
  intro x hx
  rcases List.mem_append.1 hx with hx | hx
  · exact h x hx
  · rw [List.mem_singleton.1 hx]; exact hy
theorem ev_o1 {l : List Int} (d : Nat) (hd : d ≤ 100) (side : Int) (hs : side = 114 ∨ side = 115) (a s : Int) (ih : ∀ acc : List Int, Ord acc → ∃ xs, Ord xs ∧ Ev (fun k => spec_B10Order.l0 k 4 acc ((229 - side) % 256) (d : Int) l a s) (strOfNums xs)) :
    ∀ (e : Nat) (acc : List Int), e ≤ 10 → Ord acc → ∃ xs, Ord xs ∧ Ev (fun k => spec_B10Order.l1 k 4 acc side ((d + 1 : Nat) : Int) (e : Int) l a s) (strOfNums xs)
  | 0, acc, he, ha => by
    obtain ⟨xs, h1, h2⟩ := ih acc ha
    refine ⟨xs, h1, Ev.step (fun k => ?_) h2⟩
    have hw : wrap64 (((d + 1 : Nat) : Int) - 1) = (d : Int) := by rw [w64 (by omega) (by omega)]; omega
    simp only [spec_B10Order.l1]
    rw [if_neg (by omega), hw]
  | e + 1, acc, he, ha => by
    have hw : wrap64 (((d + 1 : Nat) : Int) - 1) = (d : Int) := by rw [w64 (by omega) (by omega)]; omega
    by_cases c : acc.length < 60
    · obtain ⟨xs, h1, h2⟩ := ev_o1 d hd side hs a s ih e (acc ++ [side]) (by omega) ⟨by rw [List.length_append, List.length_singleton]; omega, ord_snoc ha.2 hs⟩
      refine ⟨xs, h1, Ev.step (fun k => ?_) h2⟩
      have he2 : wrap64 (((e + 1 : Nat) : Int) - 1) = (e : Int) := by rw [w64 (by omega) (by omega)]; omega
      simp only [spec_B10Order.l1]
      rw [if_pos (by omega), if_pos (by omega), if_pos (by omega), he2]
    · obtain ⟨xs, h1, h2⟩ := ih acc ha
      refine ⟨xs, h1, Ev.step (fun k => ?_) h2⟩
      simp only [spec_B10Order.l1]
      rw [if_pos (by omega), if_neg (by omega), hw]
theorem ev_o0 {l : List Int} (h : U8 l) : ∀ (d : Nat) (acc : List Int) (side a s : Int), d ≤ 100 → (side = 114 ∨ side = 115) → Ord acc → 0 ≤ a → a + d ≤ 50000 → ∃ xs, Ord xs ∧ Ev (fun k => spec_B10Order.l0 k 4 acc side (d : Int) l a s) (strOfNums xs)
  | 0, acc, side, a, s, hd, hs, ha, h0, h1 => ⟨acc, ha, Ev.step (f := fun _ => some (strOfNums acc)) (fun k => by simp only [spec_B10Order.l0]; rw [if_neg (by omega)]) (Ev.now _)⟩
  | d + 1, acc, side, a, s, hd, hs, ha, h0, h1 => by
    obtain ⟨v, s2, e, v0, v1⟩ := pick_small h a s 4 h0 (by omega) (by omega) (by omega)
    obtain ⟨v, rfl⟩ := Int.eq_ofNat_of_zero_le v0
    obtain ⟨xs, q1, q2⟩ := ev_o1 d (by omega) side hs (a + 1) s2 (fun acc hacc => ev_o0 h d acc ((229 - side) % 256) (a + 1) s2 (by omega) (by rcases hs with rfl | rfl <;> simp) hacc (by omega) (by omega)) (1 + v) acc (by omega) ha
    refine ⟨xs, q1, Ev.step (fun k => ?_) q2⟩
    have hw : wrap64 (1 + (v : Int)) = ((1 + v : Nat) : Int) := by rw [w64 (by omega) (by omega)]; omega
    simp only [spec_B10Order.l0]
    rw [if_pos (by omega), e]
    simp only [Option.bind_some, hw]
theorem b10Order {l : List Int} (h : U8 l) : ∃ xs, Ord xs ∧ Ev (fun k => spec_B10Order.f k l 4) (strOfNums xs) := by
  obtain ⟨b, a, s, e, a0, a1⟩ := one_any h 0 0 2 (by omega) (by omega) (by omega) (by omega)
  have go : ∀ side : Int, (side = 114 ∨ side = 115) → ∃ xs, Ord xs ∧ Ev (fun k => spec_B10Order.j0 k 4 [] side l a s) (strOfNums xs) := by
    intro side hs
    obtain ⟨v, s2, e2, v0, v1⟩ := pick_small h a s 24 (by omega) (by omega) (by omega) (by omega)
    obtain ⟨v, rfl⟩ := Int.eq_ofNat_of_zero_le v0
    obtain ⟨xs, q1, q2⟩ := ev_o0 h v [] side (a + 1) s2 (by omega) hs ⟨by simp, fun x hx => by simp at hx⟩ (by omega) (by omega)
    refine ⟨xs, q1, Ev.step (fun k => ?_) q2⟩
    simp only [spec_B10Order.j0, e2, Option.bind_some]
  unfold spec_B10Order.f spec_l00From.f
  simp only [Option.bind_some, e]
  cases b
  · obtain ⟨xs, q1, q2⟩ := go 114 (.inl rfl)
    exact ⟨xs, q1, by simpa using q2⟩
  · obtain ⟨xs, q1, q2⟩ := go 115 (.inr rfl)
    exact ⟨xs, q1, by simpa using q2⟩
end Go.Proofs.YtdgohcdemnmieaaDoor.Pure
/- Opening of arguments: what the form of the rows reads of an argument, told in the words of the printed contracts, for whole numbers, bools, strings, slices and structs, nested to any depth. No conditions. -/
namespace Go.Proofs.YtdgohcdemnmieaaDoor.O
open Go.RowKit Go.Proofs.YtdgohcdemnmieaaDoorW.PrintWords Go.ChangeShapes Go.WideShapes Go.Deep
set_option linter.unusedVariables false

/-- Whatever reads as data of type t is of the kind d, and in range. -/
def Opens {α : Type} (P : Program) (W : World) (t : TypeId) (d : Kd α) (wf : α → Prop) : Prop :=
  ∀ {H : Type} (enc : TypeId × Value → H) (base : Nat) (spare : Nat → Bool) (held : Bool) (fuel : Nat) (cs : List Value) (x : DataW H × List MemPlace), DataW.trod enc P W base spare held fuel t cs = some x → ∃ a, d.K W a cs ∧ wf a
section
variable {P : Program} {W : World} {t e : TypeId} {α β : Type}
theorem Opens.int {k : IntKind} (hu : P.underlying t = some (.int k)) : Opens P W t (Kd.int k) (fun n => (Lit.int k n).wf = true) := by
  intro H enc base spare held fuel cs x h
  obtain ⟨n, rfl, _, hw⟩ := DataW.trod_int hu h
  exact ⟨n, rfl, hw⟩
theorem Opens.bool (hu : P.underlying t = some .bool) : Opens P W t Kd.bool (fun _ => True) := by
  intro H enc base spare held fuel cs x h
  obtain ⟨n, rfl, _⟩ := DataW.trod_bool hu h
  exact ⟨n, rfl, trivial⟩
theorem Opens.string (hu : P.underlying t = some .string) : Opens P W t Kd.string (fun s => s.size ≤ maxLen) := by
  intro H enc base spare held fuel cs x h
  obtain ⟨n, rfl, _, hw⟩ := DataW.trod_string hu h
  exact ⟨n, rfl, hw⟩
theorem Opens.slice [Inhabited α] {d : Kd α} {wf : α → Prop} (ht : P.underlying t = some (.slice e)) (hc : P.cellsOf e = d.sz) (h : Opens P W e d wf) : Opens P W t (Kd.slice e d) (fun l => l.length ≤ maxLen ∧ ∀ x ∈ l, wf x) := by
  intro H enc base spare held fuel cs x hx
  rcases open_slice ht hx with ⟨rfl, _⟩ | ⟨a, len, cap, m, n, D, Pl, rfl, hb, hl, hm, hmm, _, hel⟩
  · exact ⟨[], ⟨none, 0, rfl, Nat.le_refl _, Kd.C_nil d W⟩, by simp, by simp⟩
  · have hlm : len ≤ m := by rw [hmm]; split <;> omega
    have each : ∀ i, i < len → ∃ y : α, (∃ c, c.length = d.sz ∧ d.K W y c ∧ ∀ j u, c[j]? = some u → W.cell? (a.add (i * d.sz + j)) = some u) ∧ wf y := by
      intro i hi
      obtain ⟨c, hcs, htr⟩ := hel i (by omega)
      obtain ⟨_, hlen, hcell⟩ := World.cells?_some hcs
      obtain ⟨y, hK, hw⟩ := h enc base spare held n c _ htr
      refine ⟨y, ⟨c, by rw [hlen, hc], hK, fun j u hu => ?_⟩, hw⟩
      have hj : j < c.length := (List.getElem?_eq_some_iff.1 hu).1
      have := hcell j (by omega)
      rw [hc, Deep.add_add] at this
      exact this.trans hu
    obtain ⟨f, hf⟩ := choose_lt each
    have hlen : ((List.range len).map f).length = len := by simp
    refine ⟨(List.range len).map f, ⟨some a, cap, by rw [hlen], by rw [hlen]; exact hl, ?_⟩, by rw [hlen]; omega, fun x hx => ?_⟩
    · rw [hlen]
      refine ⟨hlen, ?_, fun _ => ⟨a, rfl, fun j p hp => ?_⟩⟩
      · have := hm; unfold maxLen at this; omega
      · have hj : j < len := by have := (List.getElem?_eq_some_iff.1 hp).1; rwa [hlen] at this
        have e : p = f j := by simp [hj] at hp; exact hp.symm
        subst e
        exact (hf j hj).1
    · obtain ⟨i, hi, rfl⟩ := List.mem_map.1 hx
      exact (hf i (List.mem_range.1 hi)).2
/-- The like of the fields of a struct, from a cell on. -/
def OpensF (P : Program) (W : World) (fs : List Field) (off : Nat) (d : Kd α) (wf : α → Prop) : Prop :=
  ∀ {H : Type} (enc : TypeId × Value → H) (base : Nat) (spare : Nat → Bool) (held : Bool) (n : Nat) (cs : List Value),
    (∀ f ∈ fs, ∃ y : DataW H × List MemPlace, DataW.trod enc P W base spare held n f.type ((cs.drop f.offset).take (P.cellsOf f.type)) = some y) → cs.length = off + d.sz → ∃ a, d.K W a (cs.drop off) ∧ wf a
theorem OpensF.one {f : Field} {off : Nat} {d : Kd α} {wf : α → Prop} (ho : f.offset = off) (hc : P.cellsOf f.type = d.sz) (h : Opens P W f.type d wf) : OpensF P W [f] off d wf := by
  intro H enc base spare held n cs hf hl
  obtain ⟨y, hy⟩ := hf f (by simp)
  obtain ⟨a, hK, hw⟩ := h enc base spare held n _ y hy
  rw [ho, hc, List.take_of_length_le (by rw [List.length_drop]; omega)] at hK
  exact ⟨a, hK, hw⟩
theorem OpensF.cons {f : Field} {fs : List Field} {off : Nat} {d : Kd α} {ds : Kd β} {wf : α → Prop} {wfs : β → Prop} (ho : f.offset = off) (hc : P.cellsOf f.type = d.sz) (h : Opens P W f.type d wf) (hs : OpensF P W fs (off + d.sz) ds wfs) :
    OpensF P W (f :: fs) off (Kd.pair d ds) (fun a => wf a.1 ∧ wfs a.2) := by
  intro H enc base spare held n cs hf hl
  have hl' : cs.length = off + (d.sz + ds.sz) := hl
  obtain ⟨y, hy⟩ := hf f (by simp)
  obtain ⟨a, hK, hw⟩ := h enc base spare held n _ y hy
  rw [ho, hc] at hK
  obtain ⟨b, hKb, hwb⟩ := hs enc base spare held n cs (fun g hg => hf g (by simp [hg])) (by omega)
  refine ⟨(a, b), ⟨_, _, ?_, hK, hKb⟩, hw, hwb⟩
  rw [← List.drop_drop, List.take_append_drop]
theorem Opens.struct {fs : Array Field} {d : Kd α} {wf : α → Prop} {f : β → α} (g : α → β) (hfg : ∀ a, f (g a) = a) (ht : P.underlying t = some (.struct fs)) (hc : P.cellsOf t = d.sz) (h : OpensF P W fs.toList 0 d wf) : Opens P W t (Kd.iso d f) (fun b => wf (f b)) := by
  intro H enc base spare held fuel cs x hx
  obtain ⟨xs, k, _, _, hl, hxl, hf⟩ := DataW.trod_struct ht hx
  obtain ⟨a, hK, hw⟩ := h enc base spare held k cs (fun q hq => by
    obtain ⟨i, hi, rfl⟩ := List.getElem_of_mem hq
    have h1 : fs[i]? = some (fs.toList[i]) := by simp at hi; simp [hi]
    refine ⟨xs[i]'(by rw [hxl]; simpa using hi), ?_⟩
    rw [hf i _ h1, List.getElem?_eq_getElem]) (by rw [hl, hc]; omega)
  exact ⟨g a, by show d.K W (f (g a)) cs; rw [hfg]; simpa using hK, by show wf (f (g a)); rw [hfg]; exact hw⟩
theorem Opens.mono {d : Kd α} {wf wf' : α → Prop} (h : Opens P W t d wf) (hw : ∀ a, wf a → wf' a) : Opens P W t d wf' := by
  intro H enc base spare held fuel cs x hx
  obtain ⟨a, hK, hwa⟩ := h enc base spare held fuel cs x hx
  exact ⟨a, hK, hw a hwa⟩
/-- An argument's value. -/
theorem Opens.arg {d : Kd α} {wf : α → Prop} (h : Opens P W t d wf) {H : Type} {enc : TypeId × Value → H} {base : Nat} {spare : Nat → Bool} {held : Bool} {v : Value} {dt : DataW H} {ps : List MemPlace} (hx : DataW.Trod enc P W base spare held t v dt ps) : ∃ a, d.K W a v.cells.toList ∧ wf a := by
  obtain ⟨fuel, hf⟩ := hx
  exact h enc base spare held fuel _ _ hf
end
end Go.Proofs.YtdgohcdemnmieaaDoor.O
/- The openings of the arguments' types, and what is left to prove of each law, about numbers and lists alone. Written by this session's row2.py. No conditions. -/
namespace Go.Proofs.YtdgohcdemnmieaaDoor.A
open Go.RowKit Go.Proofs.YtdgohcdemnmieaaDoorW.PrintWords Go.Proofs.YtdgohcdemnmieaaDoorW.PrintLast Go.Proofs.YtdgohcdemnmieaaDoor.O
set_option linter.unusedVariables false
def Wf_u8 (x : Int) : Prop := (Lit.int .u8 x).wf = true
def Wf_L5 (x : List Int) : Prop := x.length ≤ maxLen ∧ ∀ y ∈ x, Wf_u8 y
end Go.Proofs.YtdgohcdemnmieaaDoor.A
/- A frame that lets one block change. No conditions. -/
namespace Go.Proofs.YtdgohcdemnmieaaDoor.A
open Go.RowKit Go.Proofs.YtdgohcdemnmieaaDoorW.PrintWords Go.Proofs.YtdgohcdemnmieaaDoorW.PrintLast Go.Proofs.YtdgohcdemnmieaaDoorW.PrintMore
set_option linter.unusedVariables false
set_option linter.unusedSimpArgs false
/-- Only block g may have become another one. -/
structure KB (g : Nat) (w w' : World) : Prop where
  os : w'.os = w.os
  tape : w'.tape = w.tape
  output : w'.output = w.output
  size : w.heap.size ≤ w'.heap.size
  block : ∀ i, i < w.heap.size → i ≠ g → w'.heap[i]? = w.heap[i]?
theorem KB.refl (g : Nat) (w : World) : KB g w w := ⟨rfl, rfl, rfl, Nat.le_refl _, fun _ _ _ => rfl⟩
theorem KB.trans {g : Nat} {a b c : World} (h : KB g a b) (k : KB g b c) : KB g a c :=
  ⟨k.os.trans h.os, k.tape.trans h.tape, k.output.trans h.output, Nat.le_trans h.size k.size, fun i hi hg => (k.block i (Nat.lt_of_lt_of_le hi h.size) hg).trans (h.block i hi hg)⟩
theorem KB.of_below {g : Nat} {w w' : World} (h : Below w.heap.size w w') : KB g w w' := ⟨h.os, h.tape, h.output, h.size, fun i hi _ => h.block i hi⟩
theorem KB.below {g : Nat} {a b c : World} (h : KB g a b) (k : Below b.heap.size b c) : KB g a c := h.trans (KB.of_below k)
theorem KB.set {g : Nat} {a b : World} (h : KB g a b) (j : Nat) (u : Value) : KB g a (b.setCell ⟨g, j, none⟩ u) :=
  ⟨h.os, h.tape, h.output, by simpa [World.setCell] using h.size, fun i hi hg => (Below.heap_setCell b ⟨g, j, none⟩ u i hg).trans (h.block i hi hg)⟩
theorem KB.drewN {g : Nat} {a b : World} (h : KB g a b) (m : Nat) : KB g a (b.drewN m) := ⟨h.os, h.tape, h.output, h.size, h.block⟩
theorem KB.drew {g : Nat} {a b : World} (h : KB g a b) : KB g a b.drew := ⟨h.os, h.tape, h.output, h.size, h.block⟩
theorem KB.alloc {g : Nat} {a b : World} (h : KB g a b) (o : Obj) : KB g a (b.alloc o) := h.trans (KB.of_below (below_alloc (Below.refl _ _) o))
theorem KB.keep {g i : Nat} {a b : World} (h : KB g a b) {o : Obj} (hb : a.heap[i]? = some o) (hg : i ≠ g) : b.heap[i]? = some o := (h.block i (blk_lt hb) hg).trans hb
theorem KB.low {g : Nat} {w0 a b : World} (h : KB g a b) (k : Below w0.heap.size w0 a) (hg : w0.heap.size ≤ g) : Below w0.heap.size w0 b :=
  ⟨h.os.trans k.os, h.tape.trans k.tape, h.output.trans k.output, Nat.le_trans k.size h.size, fun i hi => (h.block i (Nat.lt_of_lt_of_le hi k.size) (by omega)).trans (k.block i hi)⟩
/-- Only blocks of S may have become other ones. -/
structure KS (S : Nat → Prop) (w w' : World) : Prop where
  os : w'.os = w.os
  tape : w'.tape = w.tape
  output : w'.output = w.output
  size : w.heap.size ≤ w'.heap.size
  block : ∀ i, i < w.heap.size → ¬ S i → w'.heap[i]? = w.heap[i]?
theorem KS.refl (S : Nat → Prop) (w : World) : KS S w w := ⟨rfl, rfl, rfl, Nat.le_refl _, fun _ _ _ => rfl⟩
theorem KS.trans {S : Nat → Prop} {a b c : World} (h : KS S a b) (k : KS S b c) : KS S a c :=
  ⟨k.os.trans h.os, k.tape.trans h.tape, k.output.trans h.output, Nat.le_trans h.size k.size, fun i hi hg => (k.block i (Nat.lt_of_lt_of_le hi h.size) hg).trans (h.block i hi hg)⟩
/-- What changes behind: blocks of S, or such as are newer. -/
theorem KS.then {S S' : Nat → Prop} {a b c : World} (h : KS S a b) (k : KS S' b c) (hs : ∀ i, i < a.heap.size → S' i → S i) : KS S a c :=
  ⟨k.os.trans h.os, k.tape.trans h.tape, k.output.trans h.output, Nat.le_trans h.size k.size, fun i hi hg => (k.block i (Nat.lt_of_lt_of_le hi h.size) (fun z => hg (hs i hi z))).trans (h.block i hi hg)⟩
theorem KS.of_below {S : Nat → Prop} {w w' : World} (h : Below w.heap.size w w') : KS S w w' := ⟨h.os, h.tape, h.output, h.size, fun i hi _ => h.block i hi⟩
theorem KS.below {S : Nat → Prop} {a b c : World} (h : KS S a b) (k : Below b.heap.size b c) : KS S a c := h.trans (KS.of_below k)
theorem KS.grown {S : Nat → Prop} {a b c : World} (h : KS S a b) {row : Option Nat} (k : b.grownBy c row) (ho : c.os = b.os) (ht : c.tape = b.tape) (hu : c.output = b.output) (hr : ∀ i, row = some i → i < a.heap.size → S i) : KS S a c :=
  ⟨ho.trans h.os, ht.trans h.tape, hu.trans h.output, Nat.le_trans h.size k.size, fun i hi hg => (k.block i (Nat.lt_of_lt_of_le hi h.size) (fun e => hg (hr i e.symm hi))).trans (h.block i hi hg)⟩
theorem KS.set {S : Nat → Prop} {a b : World} (h : KS S a b) (g j : Nat) (u : Value) (hg : g < a.heap.size → S g) : KS S a (b.setCell ⟨g, j, none⟩ u) :=
  ⟨h.os, h.tape, h.output, by simpa [World.setCell] using h.size, fun i hi hn => (Below.heap_setCell b ⟨g, j, none⟩ u i (fun e => hn (by subst e; exact hg hi))).trans (h.block i hi hn)⟩
theorem KS.drewN {S : Nat → Prop} {a b : World} (h : KS S a b) (m : Nat) : KS S a (b.drewN m) := ⟨h.os, h.tape, h.output, h.size, h.block⟩
theorem KS.drew {S : Nat → Prop} {a b : World} (h : KS S a b) : KS S a b.drew := ⟨h.os, h.tape, h.output, h.size, h.block⟩
theorem KS.alloc {S : Nat → Prop} {a b : World} (h : KS S a b) (o : Obj) : KS S a (b.alloc o) := h.below (below_alloc (Below.refl _ _) o)
theorem KS.keep {S : Nat → Prop} {i : Nat} {a b : World} (h : KS S a b) {o : Obj} (hb : a.heap[i]? = some o) (hg : ¬ S i) : b.heap[i]? = some o := (h.block i (blk_lt hb) hg).trans hb
theorem KS.low {S : Nat → Prop} {w0 a b : World} (h : KS S a b) (k : Below w0.heap.size w0 a) (hg : ∀ i, S i → w0.heap.size ≤ i) : Below w0.heap.size w0 b :=
  ⟨h.os.trans k.os, h.tape.trans k.tape, h.output.trans k.output, Nat.le_trans k.size h.size, fun i hi => (h.block i (Nat.lt_of_lt_of_le hi k.size) (fun z => by have := hg i z; omega)).trans (k.block i hi)⟩
/-- A world of which nothing is below. -/
def bare (w : World) : World := { w with heap := #[] }
/-- A queue in memory. -/
def boxQ (q0 q1 : Int) : Obj := .cells #[.int .i64 q0, .int .i64 q1] 26 (0, 0)
end Go.Proofs.YtdgohcdemnmieaaDoor.A
/- A step of the program's queue, on its state in memory. No conditions. -/
namespace Go.Proofs.YtdgohcdemnmieaaDoor.A
open Go.RowKit Go.Proofs.YtdgohcdemnmieaaDoorW.PrintWords Go.Proofs.YtdgohcdemnmieaaDoorW.PrintLast Go.Proofs.YtdgohcdemnmieaaDoorW.PrintMore
set_option linter.unusedVariables false
set_option linter.unusedSimpArgs false
def boxY (x : S46) : Obj := .cells #[.int .i64 x.f0, .int .i64 x.f1, .int .i64 x.f2, .int .i64 x.f3, .int .i64 x.f4, .int .i64 x.f5, .int .i64 x.f6] 46 (0, 0)
theorem y_cells {w : World} {g : Nat} {x : S46} (h : w.heap[g]? = some (boxY x)) :
    w.cell? ⟨g, 0, none⟩ = some (.int .i64 x.f0) ∧ w.cell? ⟨g, 1, none⟩ = some (.int .i64 x.f1) ∧ w.cell? ⟨g, 2, none⟩ = some (.int .i64 x.f2) ∧ w.cell? ⟨g, 3, none⟩ = some (.int .i64 x.f3) ∧ w.cell? ⟨g, 4, none⟩ = some (.int .i64 x.f4) ∧ w.cell? ⟨g, 5, none⟩ = some (.int .i64 x.f5) ∧ w.cell? ⟨g, 6, none⟩ = some (.int .i64 x.f6) :=
  ⟨(blk_cell h 0).trans rfl, (blk_cell h 1).trans rfl, (blk_cell h 2).trans rfl, (blk_cell h 3).trans rfl, (blk_cell h 4).trans rfl, (blk_cell h 5).trans rfl, (blk_cell h 6).trans rfl⟩
theorem qq_cells {w : World} {g : Nat} {q0 q1 : Int} (h : w.heap[g]? = some (boxQ q0 q1)) : w.cell? ⟨g, 0, none⟩ = some (.int .i64 q0) ∧ w.cell? ⟨g, 1, none⟩ = some (.int .i64 q1) := ⟨(blk_cell h 0).trans rfl, (blk_cell h 1).trans rfl⟩
theorem within_is' (n a b : Int) : impl_within.f n a b = some (decide (a ≤ n ∧ n ≤ b)) := by
  unfold impl_within.f
  by_cases h : n ≥ a
  · rw [if_pos h]; congr 1; rw [decide_eq_decide]; omega
  · rw [if_neg h, decide_eq_false (fun z => h z.1)]
/-- All that a region of the step reads. -/
def HeldY (gx gq : Nat) (x : S46) (q0 q1 : Int) (w' : World) : Prop := w'.heap[gx]? = some (boxY x) ∧ w'.heap[gq]? = some (boxQ q0 q1)
/-- A step: a letter 115 is 's'. -/
def stepF (k : Nat) (q0 q1 : Int) (x : S46) (letter : Int) : Option S46 :=
  if wrap64 (2 * q0) = 0 then none else
  if letter = 115 then
    (impl_Queue_count.f k q0 q1 x.f2).bind fun b =>
    if Int.tmod (wrap64 (wrap64 (x.f0 - b) + wrap64 (2 * q0))) (wrap64 (2 * q0)) < q0 then
      (impl_Queue_code.f q0 q1 x.f0).bind fun c1 => (impl_Queue_code.f q0 q1 (Int.tmod (wrap64 (x.f0 + 1)) (wrap64 (2 * q0)))).bind fun c2 => (impl_Queue_code.f q0 q1 x.f1).bind fun c3 =>
        some ⟨Int.tmod (wrap64 (x.f0 + 1)) (wrap64 (2 * q0)), x.f1, c3, x.f3, Go.bits .xor .i64 c1 c2, x.f5, wrap64 (x.f6 + 1)⟩
    else (impl_Queue_code.f q0 q1 x.f1).bind fun c3 => some ⟨x.f0, x.f1, c3, x.f3, x.f4, x.f5, x.f6⟩
  else
    (impl_Queue_count.f k q0 q1 x.f3).bind fun b =>
    if 1 ≤ Int.tmod (wrap64 (wrap64 (b - x.f1) + wrap64 (2 * q0))) (wrap64 (2 * q0)) ∧ Int.tmod (wrap64 (wrap64 (b - x.f1) + wrap64 (2 * q0))) (wrap64 (2 * q0)) ≤ q0 then
      (impl_Queue_code.f q0 q1 x.f1).bind fun c1 => (impl_Queue_code.f q0 q1 (Int.tmod (wrap64 (x.f1 + 1)) (wrap64 (2 * q0)))).bind fun c2 => (impl_Queue_code.f q0 q1 x.f0).bind fun c3 =>
        some ⟨x.f0, Int.tmod (wrap64 (x.f1 + 1)) (wrap64 (2 * q0)), x.f2, c3, x.f4, Go.bits .xor .i64 c1 c2, wrap64 (x.f6 - 1)⟩
    else (impl_Queue_code.f q0 q1 x.f0).bind fun c3 => some ⟨x.f0, x.f1, x.f2, c3, x.f4, x.f5, x.f6⟩
set_option maxHeartbeats 6400000 in
set_option maxRecDepth 100000 in
theorem stepF.calls (k gx : Nat) (q0 q1 : Int) (x : S46) (letter : Int) (r : S46) (w : World) (hx : w.heap[gx]? = some (boxY x)) (h : stepF k q0 q1 x letter = some r) :
    Calls Tryd.prog 18 #[.pointer (some ⟨gx, 0, none⟩), .agg #[.int .i64 q0, .int .i64 q1], .int .u8 letter] w fun e w' => e = .returned (.tuple #[]) ∧ w'.heap[gx]? = some (boxY r) ∧ KB gx w w' := by
  have hu26 := Tryd.underlying26
  unfold stepF at h
  by_cases c0 : wrap64 (2 * q0) = 0
  · rw [if_pos c0] at h; cases h
  rw [if_neg c0] at h
  have c0b : (wrap64 (2 * q0) == 0) = false := beq_eq_false_iff_ne.mpr c0
  have HX := Aside0.mk (blk_alloc hx (boxQ q0 q1))
  have HQ := Aside0.mk (blk_new w (boxQ q0 q1))
  have HK := Aside0.mk (KB.alloc (KB.refl gx w) (boxQ q0 q1))
  have HN := Aside0.mk (show w.heap.size ≠ gx from fun e => by have := blk_lt hx; omega)
  obtain ⟨z0, z1⟩ := qq_cells HQ.out
  obtain ⟨x0, x1, x2, x3, x4, x5, x6⟩ := y_cells HX.out
  clear hx
  by_cases cs : letter = 115
  · rw [if_pos cs] at h
    have csb : (letter == 115) = true := beq_iff_eq.2 cs
    replace h := Option.bind_eq_some_iff.1 h
    obtain ⟨b, hb, h⟩ := h
    have HB := Aside0.mk hb
    clear hb
    by_cases c1 : Int.tmod (wrap64 (wrap64 (x.f0 - b) + wrap64 (2 * q0))) (wrap64 (2 * q0)) < q0
    · rw [if_pos c1] at h
      have c1b := decide_eq_true c1
      replace h := Option.bind_eq_some_iff.1 h
      obtain ⟨e1, h1, h⟩ := h
      have H1 := Aside0.mk h1
      replace h := Option.bind_eq_some_iff.1 h
      obtain ⟨e2, h2, h⟩ := h
      have H2 := Aside0.mk h2
      replace h := Option.bind_eq_some_iff.1 h
      obtain ⟨e3, h3, h⟩ := h
      have H3 := Aside0.mk h3
      have HR := Aside0.mk (Option.some.inj h)
      clear h1 h2 h3 h c1 cs
      go_enter Tryd.func18, Tryd.ntmps18
      go_wp2
      go_region_held3 (fun w' => w'.cell? ⟨gx, 0, none⟩ = some (.int .i64 (x.f0)) ∧ w'.cell? ⟨gx, 2, none⟩ = some (.int .i64 (x.f2)) ∧ w'.cell? ⟨w.heap.size, 0, none⟩ = some (.int .i64 q0) ∧ w'.cell? ⟨w.heap.size, 1, none⟩ = some (.int .i64 q1))
        (first
          | exact ⟨(blk_cell X1.out 0).trans rfl, (blk_cell X1.out 2).trans rfl, (blk_cell Q1.out 0).trans rfl, (blk_cell Q1.out 1).trans rfl⟩
          | exact ⟨(blk_cell (HX.out) 0).trans rfl, (blk_cell (HX.out) 2).trans rfl, (blk_cell (HQ.out) 0).trans rfl, (blk_cell (HQ.out) 1).trans rfl⟩
          | go_keep)
        (first
          | (go_at_call 29; (with_reducible refine (impl_Queue_count.calls k q0 q1 x.f2 b _ HB.out).mono ?_); rintro e v1 ⟨rfl, hB⟩; have X1 := Aside0.mk (blk_below (o := boxY ⟨x.f0, x.f1, x.f2, x.f3, x.f4, x.f5, x.f6⟩) (w := ((w.alloc (boxQ q0 q1))).drew) (HX.out) hB); have Q1 := Aside0.mk (blk_below (o := boxQ q0 q1) (w := ((w.alloc (boxQ q0 q1))).drew) (HQ.out) hB); have K1 := Aside0.mk (KB.below (b := ((w.alloc (boxQ q0 q1))).drew) (KB.drew HK.out) hB); clear hB))
      all_goals obtain ⟨z0, z1⟩ := qq_cells Q1.out
      all_goals obtain ⟨x0, x1, x2, x3, x4, x5, x6⟩ := y_cells X1.out
      all_goals (try dsimp only at x0 x1 x2 x3 x4 x5 x6)
      all_goals (try simp only [i64_w])
      (try rw [c1b])
      go_wp2
      go_region_held3 (fun w' => w'.cell? ⟨gx, 0, none⟩ = some (.int .i64 (x.f0)) ∧ w'.cell? ⟨w.heap.size, 0, none⟩ = some (.int .i64 q0) ∧ w'.cell? ⟨w.heap.size, 1, none⟩ = some (.int .i64 q1))
        (first
          | exact ⟨(blk_cell X2.out 0).trans rfl, (blk_cell Q2.out 0).trans rfl, (blk_cell Q2.out 1).trans rfl⟩
          | exact ⟨(blk_cell (X1.out) 0).trans rfl, (blk_cell (Q1.out) 0).trans rfl, (blk_cell (Q1.out) 1).trans rfl⟩
          | go_keep)
        (first
          | (go_at_call 30; (with_reducible refine (impl_Queue_code.calls q0 q1 x.f0 e1 _ H1.out).mono ?_); rintro e v2 ⟨rfl, hB⟩; have X2 := Aside0.mk (blk_below (o := boxY ⟨x.f0, x.f1, x.f2, x.f3, x.f4, x.f5, x.f6⟩) (w := (v1).drew) (X1.out) hB); have Q2 := Aside0.mk (blk_below (o := boxQ q0 q1) (w := (v1).drew) (Q1.out) hB); have K2 := Aside0.mk (KB.below (b := (v1).drew) (KB.drew K1.out) hB); clear hB))
      all_goals obtain ⟨z0, z1⟩ := qq_cells Q2.out
      all_goals obtain ⟨x0, x1, x2, x3, x4, x5, x6⟩ := y_cells X2.out
      all_goals (try dsimp only at x0 x1 x2 x3 x4 x5 x6)
      all_goals (try simp only [i64_w])
      have y0 := blk_frozen X2.out 0
      go_wp2
      have HX2 := Aside0.mk (show (v2.setCell ⟨gx, 0, none⟩ (.int .i64 (Int.tmod (wrap64 (x.f0 + 1)) (wrap64 (2 * q0))))).heap[gx]? = some (boxY ⟨Int.tmod (wrap64 (x.f0 + 1)) (wrap64 (2 * q0)), x.f1, x.f2, x.f3, x.f4, x.f5, x.f6⟩) from blk_put X2.out 0 _ rfl)
      have HQ2 := Aside0.mk (show (v2.setCell ⟨gx, 0, none⟩ (.int .i64 (Int.tmod (wrap64 (x.f0 + 1)) (wrap64 (2 * q0))))).heap[w.heap.size]? = some (boxQ q0 q1) from blk_far Q2.out HN.out _)
      go_region_held3 (fun w' => w'.cell? ⟨gx, 0, none⟩ = some (.int .i64 (Int.tmod (wrap64 (x.f0 + 1)) (wrap64 (2 * q0)))) ∧ w'.cell? ⟨w.heap.size, 0, none⟩ = some (.int .i64 q0) ∧ w'.cell? ⟨w.heap.size, 1, none⟩ = some (.int .i64 q1))
        (first
          | exact ⟨(blk_cell X3.out 0).trans rfl, (blk_cell Q3.out 0).trans rfl, (blk_cell Q3.out 1).trans rfl⟩
          | exact ⟨(blk_cell (HX2.out) 0).trans rfl, (blk_cell (HQ2.out) 0).trans rfl, (blk_cell (HQ2.out) 1).trans rfl⟩
          | exact ⟨(blk_cell (blk_put X3.out 4 _ rfl) 0).trans rfl, (blk_cell (blk_far Q3.out HN.out _) 0).trans rfl, (blk_cell (blk_far Q3.out HN.out _) 1).trans rfl⟩
          | go_keep)
        (first
          | (go_at_call 30; (with_reducible refine (impl_Queue_code.calls q0 q1 (Int.tmod (wrap64 (x.f0 + 1)) (wrap64 (2 * q0))) e2 _ H2.out).mono ?_); rintro e v3 ⟨rfl, hB⟩; have X3 := Aside0.mk (blk_below (o := boxY ⟨Int.tmod (wrap64 (x.f0 + 1)) (wrap64 (2 * q0)), x.f1, x.f2, x.f3, x.f4, x.f5, x.f6⟩) (w := (v2.setCell ⟨gx, 0, none⟩ (.int .i64 (Int.tmod (wrap64 (x.f0 + 1)) (wrap64 (2 * q0))))).drew) (HX2.out) hB); have Q3 := Aside0.mk (blk_below (o := boxQ q0 q1) (w := (v2.setCell ⟨gx, 0, none⟩ (.int .i64 (Int.tmod (wrap64 (x.f0 + 1)) (wrap64 (2 * q0))))).drew) (HQ2.out) hB); have K3 := Aside0.mk (KB.below (b := (v2.setCell ⟨gx, 0, none⟩ (.int .i64 (Int.tmod (wrap64 (x.f0 + 1)) (wrap64 (2 * q0))))).drew) (KB.drew (KB.set K2.out 0 _)) hB); have y_ := blk_frozen X3.out 4; obtain ⟨x0, x1, x2, x3, x4, x5, x6⟩ := y_cells X3.out; (try dsimp only at x0 x1 x2 x3 x4 x5 x6); clear hB))
      all_goals obtain ⟨z0, z1⟩ := qq_cells Q3.out
      all_goals obtain ⟨x0, x1, x2, x3, x4, x5, x6⟩ := y_cells X3.out
      all_goals (try dsimp only at x0 x1 x2 x3 x4 x5 x6)
      all_goals (try simp only [i64_w])
      have HX3 := Aside0.mk (show ((v3.setCell ⟨gx, 4, none⟩ (.int .i64 (Go.bits .xor .i64 e1 e2)))).heap[gx]? = some (boxY ⟨Int.tmod (wrap64 (x.f0 + 1)) (wrap64 (2 * q0)), x.f1, x.f2, x.f3, Go.bits .xor .i64 e1 e2, x.f5, x.f6⟩) from blk_put X3.out 4 _ rfl)
      have HQ3 := Aside0.mk (show ((v3.setCell ⟨gx, 4, none⟩ (.int .i64 (Go.bits .xor .i64 e1 e2)))).heap[w.heap.size]? = some (boxQ q0 q1) from blk_far Q3.out HN.out _)
      have y6 := blk_frozen X3.out 6
      go_wp2
      have HX4 := Aside0.mk (show (((v3.setCell ⟨gx, 4, none⟩ (.int .i64 (Go.bits .xor .i64 e1 e2))).setCell ⟨gx, 6, none⟩ (.int .i64 (wrap64 (x.f6 + 1))))).heap[gx]? = some (boxY ⟨Int.tmod (wrap64 (x.f0 + 1)) (wrap64 (2 * q0)), x.f1, x.f2, x.f3, Go.bits .xor .i64 e1 e2, x.f5, wrap64 (x.f6 + 1)⟩) from blk_put HX3.out 6 _ rfl)
      have HQ4 := Aside0.mk (show (((v3.setCell ⟨gx, 4, none⟩ (.int .i64 (Go.bits .xor .i64 e1 e2))).setCell ⟨gx, 6, none⟩ (.int .i64 (wrap64 (x.f6 + 1))))).heap[w.heap.size]? = some (boxQ q0 q1) from blk_far HQ3.out HN.out _)
      go_region_held3 (fun w' => w'.cell? ⟨gx, 1, none⟩ = some (.int .i64 (x.f1)) ∧ w'.cell? ⟨w.heap.size, 0, none⟩ = some (.int .i64 q0) ∧ w'.cell? ⟨w.heap.size, 1, none⟩ = some (.int .i64 q1))
        (first
          | exact ⟨(blk_cell X5.out 1).trans rfl, (blk_cell Q5.out 0).trans rfl, (blk_cell Q5.out 1).trans rfl⟩
          | exact ⟨(blk_cell (HX4.out) 1).trans rfl, (blk_cell (HQ4.out) 0).trans rfl, (blk_cell (HQ4.out) 1).trans rfl⟩
          | exact ⟨(blk_cell (blk_put X5.out 2 _ rfl) 1).trans rfl, (blk_cell (blk_far Q5.out HN.out _) 0).trans rfl, (blk_cell (blk_far Q5.out HN.out _) 1).trans rfl⟩
          | go_keep)
        (first
          | (go_at_call 30; (with_reducible refine (impl_Queue_code.calls q0 q1 x.f1 e3 _ H3.out).mono ?_); rintro e v5 ⟨rfl, hB⟩; have X5 := Aside0.mk (blk_below (o := boxY ⟨Int.tmod (wrap64 (x.f0 + 1)) (wrap64 (2 * q0)), x.f1, x.f2, x.f3, Go.bits .xor .i64 e1 e2, x.f5, wrap64 (x.f6 + 1)⟩) (w := (((v3.setCell ⟨gx, 4, none⟩ (.int .i64 (Go.bits .xor .i64 e1 e2))).setCell ⟨gx, 6, none⟩ (.int .i64 (wrap64 (x.f6 + 1))))).drew) (HX4.out) hB); have Q5 := Aside0.mk (blk_below (o := boxQ q0 q1) (w := (((v3.setCell ⟨gx, 4, none⟩ (.int .i64 (Go.bits .xor .i64 e1 e2))).setCell ⟨gx, 6, none⟩ (.int .i64 (wrap64 (x.f6 + 1))))).drew) (HQ4.out) hB); have K5 := Aside0.mk (KB.below (b := (((v3.setCell ⟨gx, 4, none⟩ (.int .i64 (Go.bits .xor .i64 e1 e2))).setCell ⟨gx, 6, none⟩ (.int .i64 (wrap64 (x.f6 + 1))))).drew) (KB.drew (KB.set (KB.set K3.out 4 _) 6 _)) hB); have y_ := blk_frozen X5.out 2; obtain ⟨x0, x1, x2, x3, x4, x5, x6⟩ := y_cells X5.out; (try dsimp only at x0 x1 x2 x3 x4 x5 x6); clear hB))
      all_goals obtain ⟨z0, z1⟩ := qq_cells Q5.out
      all_goals obtain ⟨x0, x1, x2, x3, x4, x5, x6⟩ := y_cells X5.out
      all_goals (try dsimp only at x0 x1 x2 x3 x4 x5 x6)
      all_goals (try simp only [i64_w])
      all_goals go_wp2
      all_goals (first | go_end0 | ((try simp only [Exit.inBlock, Exit.then]); refine bodyPost_ret (results_none rfl _ _ _) rfl ?_))
      all_goals exact ⟨rfl, by rw [← HR.out]; exact blk_put X5.out 2 _ rfl, KB.set K5.out 2 _⟩
    · rw [if_neg c1] at h
      have c1b := decide_eq_false c1
      replace h := Option.bind_eq_some_iff.1 h
      obtain ⟨e3, h3, h⟩ := h
      have H3 := Aside0.mk h3
      have HR := Aside0.mk (Option.some.inj h)
      clear h3 h c1 cs
      go_enter Tryd.func18, Tryd.ntmps18
      go_wp2
      go_region_held3 (fun w' => w'.cell? ⟨gx, 0, none⟩ = some (.int .i64 (x.f0)) ∧ w'.cell? ⟨gx, 2, none⟩ = some (.int .i64 (x.f2)) ∧ w'.cell? ⟨w.heap.size, 0, none⟩ = some (.int .i64 q0) ∧ w'.cell? ⟨w.heap.size, 1, none⟩ = some (.int .i64 q1))
        (first
          | exact ⟨(blk_cell X1.out 0).trans rfl, (blk_cell X1.out 2).trans rfl, (blk_cell Q1.out 0).trans rfl, (blk_cell Q1.out 1).trans rfl⟩
          | exact ⟨(blk_cell (HX.out) 0).trans rfl, (blk_cell (HX.out) 2).trans rfl, (blk_cell (HQ.out) 0).trans rfl, (blk_cell (HQ.out) 1).trans rfl⟩
          | go_keep)
        (first
          | (go_at_call 29; (with_reducible refine (impl_Queue_count.calls k q0 q1 x.f2 b _ HB.out).mono ?_); rintro e v1 ⟨rfl, hB⟩; have X1 := Aside0.mk (blk_below (o := boxY ⟨x.f0, x.f1, x.f2, x.f3, x.f4, x.f5, x.f6⟩) (w := ((w.alloc (boxQ q0 q1))).drew) (HX.out) hB); have Q1 := Aside0.mk (blk_below (o := boxQ q0 q1) (w := ((w.alloc (boxQ q0 q1))).drew) (HQ.out) hB); have K1 := Aside0.mk (KB.below (b := ((w.alloc (boxQ q0 q1))).drew) (KB.drew HK.out) hB); clear hB))
      all_goals obtain ⟨z0, z1⟩ := qq_cells Q1.out
      all_goals obtain ⟨x0, x1, x2, x3, x4, x5, x6⟩ := y_cells X1.out
      all_goals (try dsimp only at x0 x1 x2 x3 x4 x5 x6)
      all_goals (try simp only [i64_w])
      (try rw [c1b])
      go_wp2
      go_region_held3 (fun w' => w'.cell? ⟨gx, 1, none⟩ = some (.int .i64 (x.f1)) ∧ w'.cell? ⟨w.heap.size, 0, none⟩ = some (.int .i64 q0) ∧ w'.cell? ⟨w.heap.size, 1, none⟩ = some (.int .i64 q1))
        (first
          | exact ⟨(blk_cell X5.out 1).trans rfl, (blk_cell Q5.out 0).trans rfl, (blk_cell Q5.out 1).trans rfl⟩
          | exact ⟨(blk_cell (X1.out) 1).trans rfl, (blk_cell (Q1.out) 0).trans rfl, (blk_cell (Q1.out) 1).trans rfl⟩
          | exact ⟨(blk_cell (blk_put X5.out 2 _ rfl) 1).trans rfl, (blk_cell (blk_far Q5.out HN.out _) 0).trans rfl, (blk_cell (blk_far Q5.out HN.out _) 1).trans rfl⟩
          | go_keep)
        (first
          | (go_at_call 30; (with_reducible refine (impl_Queue_code.calls q0 q1 x.f1 e3 _ H3.out).mono ?_); rintro e v5 ⟨rfl, hB⟩; have X5 := Aside0.mk (blk_below (o := boxY ⟨x.f0, x.f1, x.f2, x.f3, x.f4, x.f5, x.f6⟩) (w := (v1).drew) (X1.out) hB); have Q5 := Aside0.mk (blk_below (o := boxQ q0 q1) (w := (v1).drew) (Q1.out) hB); have K5 := Aside0.mk (KB.below (b := (v1).drew) (KB.drew K1.out) hB); have y_ := blk_frozen X5.out 2; obtain ⟨x0, x1, x2, x3, x4, x5, x6⟩ := y_cells X5.out; (try dsimp only at x0 x1 x2 x3 x4 x5 x6); clear hB))
      all_goals obtain ⟨z0, z1⟩ := qq_cells Q5.out
      all_goals obtain ⟨x0, x1, x2, x3, x4, x5, x6⟩ := y_cells X5.out
      all_goals (try dsimp only at x0 x1 x2 x3 x4 x5 x6)
      all_goals (try simp only [i64_w])
      all_goals go_wp2
      all_goals (first | go_end0 | ((try simp only [Exit.inBlock, Exit.then]); refine bodyPost_ret (results_none rfl _ _ _) rfl ?_))
      all_goals exact ⟨rfl, by rw [← HR.out]; exact blk_put X5.out 2 _ rfl, KB.set K5.out 2 _⟩

  · rw [if_neg cs] at h
    have csb : (letter == 115) = false := beq_eq_false_iff_ne.2 cs
    replace h := Option.bind_eq_some_iff.1 h
    obtain ⟨b, hb, h⟩ := h
    have HB := Aside0.mk hb
    clear hb
    by_cases c1 : 1 ≤ Int.tmod (wrap64 (wrap64 (b - x.f1) + wrap64 (2 * q0))) (wrap64 (2 * q0)) ∧ Int.tmod (wrap64 (wrap64 (b - x.f1) + wrap64 (2 * q0))) (wrap64 (2 * q0)) ≤ q0
    · rw [if_pos c1] at h
      have HI := Aside0.mk ((within_is' (Int.tmod (wrap64 (wrap64 (b - x.f1) + wrap64 (2 * q0))) (wrap64 (2 * q0))) 1 q0).trans (by rw [decide_eq_true c1] : _ = some true))
      replace h := Option.bind_eq_some_iff.1 h
      obtain ⟨e1, h1, h⟩ := h
      have H1 := Aside0.mk h1
      replace h := Option.bind_eq_some_iff.1 h
      obtain ⟨e2, h2, h⟩ := h
      have H2 := Aside0.mk h2
      replace h := Option.bind_eq_some_iff.1 h
      obtain ⟨e3, h3, h⟩ := h
      have H3 := Aside0.mk h3
      have HR := Aside0.mk (Option.some.inj h)
      clear h1 h2 h3 h c1 cs
      go_enter Tryd.func18, Tryd.ntmps18
      go_wp2
      go_region_held3 (fun w' => w'.cell? ⟨gx, 1, none⟩ = some (.int .i64 (x.f1)) ∧ w'.cell? ⟨gx, 3, none⟩ = some (.int .i64 (x.f3)) ∧ w'.cell? ⟨w.heap.size, 0, none⟩ = some (.int .i64 q0) ∧ w'.cell? ⟨w.heap.size, 1, none⟩ = some (.int .i64 q1))
        (first
          | exact ⟨(blk_cell X1.out 1).trans rfl, (blk_cell X1.out 3).trans rfl, (blk_cell Q1.out 0).trans rfl, (blk_cell Q1.out 1).trans rfl⟩
          | exact ⟨(blk_cell (HX.out) 1).trans rfl, (blk_cell (HX.out) 3).trans rfl, (blk_cell (HQ.out) 0).trans rfl, (blk_cell (HQ.out) 1).trans rfl⟩
          | go_keep)
        (first
          | (go_at_call 29; (with_reducible refine (impl_Queue_count.calls k q0 q1 x.f3 b _ HB.out).mono ?_); rintro e v1 ⟨rfl, hB⟩; have X1 := Aside0.mk (blk_below (o := boxY ⟨x.f0, x.f1, x.f2, x.f3, x.f4, x.f5, x.f6⟩) (w := ((w.alloc (boxQ q0 q1))).drew) (HX.out) hB); have Q1 := Aside0.mk (blk_below (o := boxQ q0 q1) (w := ((w.alloc (boxQ q0 q1))).drew) (HQ.out) hB); have K1 := Aside0.mk (KB.below (b := ((w.alloc (boxQ q0 q1))).drew) (KB.drew HK.out) hB); clear hB))
      all_goals obtain ⟨z0, z1⟩ := qq_cells Q1.out
      all_goals obtain ⟨x0, x1, x2, x3, x4, x5, x6⟩ := y_cells X1.out
      all_goals (try dsimp only at x0 x1 x2 x3 x4 x5 x6)
      all_goals (try simp only [i64_w])
      go_wp2_with (first
        | (go_at_call 20; (with_reducible refine (impl_within.calls (Int.tmod (wrap64 (wrap64 (b - x.f1) + wrap64 (2 * q0))) (wrap64 (2 * q0))) 1 q0 true _ HI.out).mono ?_); rintro e wi ⟨rfl, hD⟩; have X1b := Aside0.mk (show wi.heap[gx]? = some (boxY x) by obtain ⟨m, rfl⟩ := hD; exact X1.out); have Q1b := Aside0.mk (show wi.heap[w.heap.size]? = some (boxQ q0 q1) by obtain ⟨m, rfl⟩ := hD; exact Q1.out); have K1b := Aside0.mk (show KB gx w wi by obtain ⟨m, rfl⟩ := hD; exact KB.drewN K1.out m); clear hD; obtain ⟨z0, z1⟩ := qq_cells Q1b.out; obtain ⟨x0, x1, x2, x3, x4, x5, x6⟩ := y_cells X1b.out))
      go_region_held3 (fun w' => w'.cell? ⟨gx, 1, none⟩ = some (.int .i64 (x.f1)) ∧ w'.cell? ⟨w.heap.size, 0, none⟩ = some (.int .i64 q0) ∧ w'.cell? ⟨w.heap.size, 1, none⟩ = some (.int .i64 q1))
        (first
          | exact ⟨(blk_cell X2.out 1).trans rfl, (blk_cell Q2.out 0).trans rfl, (blk_cell Q2.out 1).trans rfl⟩
          | exact ⟨(blk_cell (X1b.out) 1).trans rfl, (blk_cell (Q1b.out) 0).trans rfl, (blk_cell (Q1b.out) 1).trans rfl⟩
          | go_keep)
        (first
          | (go_at_call 30; (with_reducible refine (impl_Queue_code.calls q0 q1 x.f1 e1 _ H1.out).mono ?_); rintro e v2 ⟨rfl, hB⟩; have X2 := Aside0.mk (blk_below (o := boxY ⟨x.f0, x.f1, x.f2, x.f3, x.f4, x.f5, x.f6⟩) (w := (wi).drew) (X1b.out) hB); have Q2 := Aside0.mk (blk_below (o := boxQ q0 q1) (w := (wi).drew) (Q1b.out) hB); have K2 := Aside0.mk (KB.below (b := (wi).drew) (KB.drew K1b.out) hB); clear hB))
      all_goals obtain ⟨z0, z1⟩ := qq_cells Q2.out
      all_goals obtain ⟨x0, x1, x2, x3, x4, x5, x6⟩ := y_cells X2.out
      all_goals (try dsimp only at x0 x1 x2 x3 x4 x5 x6)
      all_goals (try simp only [i64_w])
      have y0 := blk_frozen X2.out 1
      go_wp2
      have HX2 := Aside0.mk (show (v2.setCell ⟨gx, 1, none⟩ (.int .i64 (Int.tmod (wrap64 (x.f1 + 1)) (wrap64 (2 * q0))))).heap[gx]? = some (boxY ⟨x.f0, Int.tmod (wrap64 (x.f1 + 1)) (wrap64 (2 * q0)), x.f2, x.f3, x.f4, x.f5, x.f6⟩) from blk_put X2.out 1 _ rfl)
      have HQ2 := Aside0.mk (show (v2.setCell ⟨gx, 1, none⟩ (.int .i64 (Int.tmod (wrap64 (x.f1 + 1)) (wrap64 (2 * q0))))).heap[w.heap.size]? = some (boxQ q0 q1) from blk_far Q2.out HN.out _)
      go_region_held3 (fun w' => w'.cell? ⟨gx, 1, none⟩ = some (.int .i64 (Int.tmod (wrap64 (x.f1 + 1)) (wrap64 (2 * q0)))) ∧ w'.cell? ⟨w.heap.size, 0, none⟩ = some (.int .i64 q0) ∧ w'.cell? ⟨w.heap.size, 1, none⟩ = some (.int .i64 q1))
        (first
          | exact ⟨(blk_cell X3.out 1).trans rfl, (blk_cell Q3.out 0).trans rfl, (blk_cell Q3.out 1).trans rfl⟩
          | exact ⟨(blk_cell (HX2.out) 1).trans rfl, (blk_cell (HQ2.out) 0).trans rfl, (blk_cell (HQ2.out) 1).trans rfl⟩
          | exact ⟨(blk_cell (blk_put X3.out 5 _ rfl) 1).trans rfl, (blk_cell (blk_far Q3.out HN.out _) 0).trans rfl, (blk_cell (blk_far Q3.out HN.out _) 1).trans rfl⟩
          | go_keep)
        (first
          | (go_at_call 30; (with_reducible refine (impl_Queue_code.calls q0 q1 (Int.tmod (wrap64 (x.f1 + 1)) (wrap64 (2 * q0))) e2 _ H2.out).mono ?_); rintro e v3 ⟨rfl, hB⟩; have X3 := Aside0.mk (blk_below (o := boxY ⟨x.f0, Int.tmod (wrap64 (x.f1 + 1)) (wrap64 (2 * q0)), x.f2, x.f3, x.f4, x.f5, x.f6⟩) (w := (v2.setCell ⟨gx, 1, none⟩ (.int .i64 (Int.tmod (wrap64 (x.f1 + 1)) (wrap64 (2 * q0))))).drew) (HX2.out) hB); have Q3 := Aside0.mk (blk_below (o := boxQ q0 q1) (w := (v2.setCell ⟨gx, 1, none⟩ (.int .i64 (Int.tmod (wrap64 (x.f1 + 1)) (wrap64 (2 * q0))))).drew) (HQ2.out) hB); have K3 := Aside0.mk (KB.below (b := (v2.setCell ⟨gx, 1, none⟩ (.int .i64 (Int.tmod (wrap64 (x.f1 + 1)) (wrap64 (2 * q0))))).drew) (KB.drew (KB.set K2.out 1 _)) hB); have y_ := blk_frozen X3.out 5; obtain ⟨x0, x1, x2, x3, x4, x5, x6⟩ := y_cells X3.out; (try dsimp only at x0 x1 x2 x3 x4 x5 x6); clear hB))
      all_goals obtain ⟨z0, z1⟩ := qq_cells Q3.out
      all_goals obtain ⟨x0, x1, x2, x3, x4, x5, x6⟩ := y_cells X3.out
      all_goals (try dsimp only at x0 x1 x2 x3 x4 x5 x6)
      all_goals (try simp only [i64_w])
      have HX3 := Aside0.mk (show ((v3.setCell ⟨gx, 5, none⟩ (.int .i64 (Go.bits .xor .i64 e1 e2)))).heap[gx]? = some (boxY ⟨x.f0, Int.tmod (wrap64 (x.f1 + 1)) (wrap64 (2 * q0)), x.f2, x.f3, x.f4, Go.bits .xor .i64 e1 e2, x.f6⟩) from blk_put X3.out 5 _ rfl)
      have HQ3 := Aside0.mk (show ((v3.setCell ⟨gx, 5, none⟩ (.int .i64 (Go.bits .xor .i64 e1 e2)))).heap[w.heap.size]? = some (boxQ q0 q1) from blk_far Q3.out HN.out _)
      have y6 := blk_frozen X3.out 6
      go_wp2
      have HX4 := Aside0.mk (show (((v3.setCell ⟨gx, 5, none⟩ (.int .i64 (Go.bits .xor .i64 e1 e2))).setCell ⟨gx, 6, none⟩ (.int .i64 (wrap64 (x.f6 - 1))))).heap[gx]? = some (boxY ⟨x.f0, Int.tmod (wrap64 (x.f1 + 1)) (wrap64 (2 * q0)), x.f2, x.f3, x.f4, Go.bits .xor .i64 e1 e2, wrap64 (x.f6 - 1)⟩) from blk_put HX3.out 6 _ rfl)
      have HQ4 := Aside0.mk (show (((v3.setCell ⟨gx, 5, none⟩ (.int .i64 (Go.bits .xor .i64 e1 e2))).setCell ⟨gx, 6, none⟩ (.int .i64 (wrap64 (x.f6 - 1))))).heap[w.heap.size]? = some (boxQ q0 q1) from blk_far HQ3.out HN.out _)
      go_region_held3 (fun w' => w'.cell? ⟨gx, 0, none⟩ = some (.int .i64 (x.f0)) ∧ w'.cell? ⟨w.heap.size, 0, none⟩ = some (.int .i64 q0) ∧ w'.cell? ⟨w.heap.size, 1, none⟩ = some (.int .i64 q1))
        (first
          | exact ⟨(blk_cell X5.out 0).trans rfl, (blk_cell Q5.out 0).trans rfl, (blk_cell Q5.out 1).trans rfl⟩
          | exact ⟨(blk_cell (HX4.out) 0).trans rfl, (blk_cell (HQ4.out) 0).trans rfl, (blk_cell (HQ4.out) 1).trans rfl⟩
          | exact ⟨(blk_cell (blk_put X5.out 3 _ rfl) 0).trans rfl, (blk_cell (blk_far Q5.out HN.out _) 0).trans rfl, (blk_cell (blk_far Q5.out HN.out _) 1).trans rfl⟩
          | go_keep)
        (first
          | (go_at_call 30; (with_reducible refine (impl_Queue_code.calls q0 q1 x.f0 e3 _ H3.out).mono ?_); rintro e v5 ⟨rfl, hB⟩; have X5 := Aside0.mk (blk_below (o := boxY ⟨x.f0, Int.tmod (wrap64 (x.f1 + 1)) (wrap64 (2 * q0)), x.f2, x.f3, x.f4, Go.bits .xor .i64 e1 e2, wrap64 (x.f6 - 1)⟩) (w := (((v3.setCell ⟨gx, 5, none⟩ (.int .i64 (Go.bits .xor .i64 e1 e2))).setCell ⟨gx, 6, none⟩ (.int .i64 (wrap64 (x.f6 - 1))))).drew) (HX4.out) hB); have Q5 := Aside0.mk (blk_below (o := boxQ q0 q1) (w := (((v3.setCell ⟨gx, 5, none⟩ (.int .i64 (Go.bits .xor .i64 e1 e2))).setCell ⟨gx, 6, none⟩ (.int .i64 (wrap64 (x.f6 - 1))))).drew) (HQ4.out) hB); have K5 := Aside0.mk (KB.below (b := (((v3.setCell ⟨gx, 5, none⟩ (.int .i64 (Go.bits .xor .i64 e1 e2))).setCell ⟨gx, 6, none⟩ (.int .i64 (wrap64 (x.f6 - 1))))).drew) (KB.drew (KB.set (KB.set K3.out 5 _) 6 _)) hB); have y_ := blk_frozen X5.out 3; obtain ⟨x0, x1, x2, x3, x4, x5, x6⟩ := y_cells X5.out; (try dsimp only at x0 x1 x2 x3 x4 x5 x6); clear hB))
      all_goals obtain ⟨z0, z1⟩ := qq_cells Q5.out
      all_goals obtain ⟨x0, x1, x2, x3, x4, x5, x6⟩ := y_cells X5.out
      all_goals (try dsimp only at x0 x1 x2 x3 x4 x5 x6)
      all_goals (try simp only [i64_w])
      all_goals go_wp2
      all_goals (first | go_end0 | ((try simp only [Exit.inBlock, Exit.then]); refine bodyPost_ret (results_none rfl _ _ _) rfl ?_))
      all_goals exact ⟨rfl, by rw [← HR.out]; exact blk_put X5.out 3 _ rfl, KB.set K5.out 3 _⟩
    · rw [if_neg c1] at h
      have HI := Aside0.mk ((within_is' (Int.tmod (wrap64 (wrap64 (b - x.f1) + wrap64 (2 * q0))) (wrap64 (2 * q0))) 1 q0).trans (by rw [decide_eq_false c1] : _ = some false))
      replace h := Option.bind_eq_some_iff.1 h
      obtain ⟨e3, h3, h⟩ := h
      have H3 := Aside0.mk h3
      have HR := Aside0.mk (Option.some.inj h)
      clear h3 h c1 cs
      go_enter Tryd.func18, Tryd.ntmps18
      go_wp2
      go_region_held3 (fun w' => w'.cell? ⟨gx, 1, none⟩ = some (.int .i64 (x.f1)) ∧ w'.cell? ⟨gx, 3, none⟩ = some (.int .i64 (x.f3)) ∧ w'.cell? ⟨w.heap.size, 0, none⟩ = some (.int .i64 q0) ∧ w'.cell? ⟨w.heap.size, 1, none⟩ = some (.int .i64 q1))
        (first
          | exact ⟨(blk_cell X1.out 1).trans rfl, (blk_cell X1.out 3).trans rfl, (blk_cell Q1.out 0).trans rfl, (blk_cell Q1.out 1).trans rfl⟩
          | exact ⟨(blk_cell (HX.out) 1).trans rfl, (blk_cell (HX.out) 3).trans rfl, (blk_cell (HQ.out) 0).trans rfl, (blk_cell (HQ.out) 1).trans rfl⟩
          | go_keep)
        (first
          | (go_at_call 29; (with_reducible refine (impl_Queue_count.calls k q0 q1 x.f3 b _ HB.out).mono ?_); rintro e v1 ⟨rfl, hB⟩; have X1 := Aside0.mk (blk_below (o := boxY ⟨x.f0, x.f1, x.f2, x.f3, x.f4, x.f5, x.f6⟩) (w := ((w.alloc (boxQ q0 q1))).drew) (HX.out) hB); have Q1 := Aside0.mk (blk_below (o := boxQ q0 q1) (w := ((w.alloc (boxQ q0 q1))).drew) (HQ.out) hB); have K1 := Aside0.mk (KB.below (b := ((w.alloc (boxQ q0 q1))).drew) (KB.drew HK.out) hB); clear hB))
      all_goals obtain ⟨z0, z1⟩ := qq_cells Q1.out
      all_goals obtain ⟨x0, x1, x2, x3, x4, x5, x6⟩ := y_cells X1.out
      all_goals (try dsimp only at x0 x1 x2 x3 x4 x5 x6)
      all_goals (try simp only [i64_w])
      go_wp2_with (first
        | (go_at_call 20; (with_reducible refine (impl_within.calls (Int.tmod (wrap64 (wrap64 (b - x.f1) + wrap64 (2 * q0))) (wrap64 (2 * q0))) 1 q0 false _ HI.out).mono ?_); rintro e wi ⟨rfl, hD⟩; have X1b := Aside0.mk (show wi.heap[gx]? = some (boxY x) by obtain ⟨m, rfl⟩ := hD; exact X1.out); have Q1b := Aside0.mk (show wi.heap[w.heap.size]? = some (boxQ q0 q1) by obtain ⟨m, rfl⟩ := hD; exact Q1.out); have K1b := Aside0.mk (show KB gx w wi by obtain ⟨m, rfl⟩ := hD; exact KB.drewN K1.out m); clear hD; obtain ⟨z0, z1⟩ := qq_cells Q1b.out; obtain ⟨x0, x1, x2, x3, x4, x5, x6⟩ := y_cells X1b.out))
      go_region_held3 (fun w' => w'.cell? ⟨gx, 0, none⟩ = some (.int .i64 (x.f0)) ∧ w'.cell? ⟨w.heap.size, 0, none⟩ = some (.int .i64 q0) ∧ w'.cell? ⟨w.heap.size, 1, none⟩ = some (.int .i64 q1))
        (first
          | exact ⟨(blk_cell X5.out 0).trans rfl, (blk_cell Q5.out 0).trans rfl, (blk_cell Q5.out 1).trans rfl⟩
          | exact ⟨(blk_cell (X1b.out) 0).trans rfl, (blk_cell (Q1b.out) 0).trans rfl, (blk_cell (Q1b.out) 1).trans rfl⟩
          | exact ⟨(blk_cell (blk_put X5.out 3 _ rfl) 0).trans rfl, (blk_cell (blk_far Q5.out HN.out _) 0).trans rfl, (blk_cell (blk_far Q5.out HN.out _) 1).trans rfl⟩
          | go_keep)
        (first
          | (go_at_call 30; (with_reducible refine (impl_Queue_code.calls q0 q1 x.f0 e3 _ H3.out).mono ?_); rintro e v5 ⟨rfl, hB⟩; have X5 := Aside0.mk (blk_below (o := boxY ⟨x.f0, x.f1, x.f2, x.f3, x.f4, x.f5, x.f6⟩) (w := (wi).drew) (X1b.out) hB); have Q5 := Aside0.mk (blk_below (o := boxQ q0 q1) (w := (wi).drew) (Q1b.out) hB); have K5 := Aside0.mk (KB.below (b := (wi).drew) (KB.drew K1b.out) hB); have y_ := blk_frozen X5.out 3; obtain ⟨x0, x1, x2, x3, x4, x5, x6⟩ := y_cells X5.out; (try dsimp only at x0 x1 x2 x3 x4 x5 x6); clear hB))
      all_goals obtain ⟨z0, z1⟩ := qq_cells Q5.out
      all_goals obtain ⟨x0, x1, x2, x3, x4, x5, x6⟩ := y_cells X5.out
      all_goals (try dsimp only at x0 x1 x2 x3 x4 x5 x6)
      all_goals (try simp only [i64_w])
      all_goals go_wp2
      all_goals (first | go_end0 | ((try simp only [Exit.inBlock, Exit.then]); refine bodyPost_ret (results_none rfl _ _ _) rfl ?_))
      all_goals exact ⟨rfl, by rw [← HR.out]; exact blk_put X5.out 3 _ rfl, KB.set K5.out 3 _⟩

end Go.Proofs.YtdgohcdemnmieaaDoor.A
-- Printed by this session's oprint.py through the kit's printer.
namespace Go.Proofs.YtdgohcdemnmieaaDoor.A
open Go.RowKit Go.Proofs.YtdgohcdemnmieaaDoorW.PrintWords Go.Proofs.YtdgohcdemnmieaaDoorW.PrintLast Go.Proofs.YtdgohcdemnmieaaDoorW.PrintMore
attribute [local go_sem] max2_int min2_int max_two min_two max_three min_three max_four min_four   -- for this text's walks alone
set_option linter.unusedVariables false
set_option linter.unusedSimpArgs false

/-! ### impl_RunQueue: function 7 -/
-- given: proved by hand (runqueue.tpl)
theorem info2_q : (Tryd.prog.info? 2).map (fun i => (i.zero, i.size, i.bytes)) = some (some (.int .i64 0), 1, 8) := by kernel_rfl
def runL (q0 q1 : Int) : List UInt8 → S46 → List Int → Option (List Int)
  | [], _, out => some out
  | b :: l, x, out => (stepF 100 q0 q1 x (b.toNat : Int)).bind fun y => runL q0 q1 l y (out ++ [y.f6])
def impl_RunQueue.f (q0 q1 : Int) (s : ByteArray) : Option (List Int × Bool) :=
  if impl_ValidQueue.f q0 q1 = some true ∧ impl_isOrder.f s = some true ∧ s.size ≤ 300 then (runL q0 q1 s.data.toList ⟨0, 0, 0, 0, 0, 0, 0⟩ []).bind fun out => some (out, true) else none
theorem kint_ne {w : World} {base : Nat} {ok : Nat → Prop} {v : Value} {xs : List Int} {g : Nat} {cells : Array Value} {t : Nat} (hR : Kd.R (Kd.int .i64) 2 w base ok v xs) (hg : w.heap[g]? = some (.cells cells t (0, 0))) (ht : t ≠ 2) : ∀ k, some k = v.ownBlock → k ≠ g := fun k e e2 => by
  subst e2
  obtain ⟨c, hc⟩ := Kd.R_typed hR k e.symm
  rw [hg] at hc
  injection hc with hc
  injection hc with _ h2
  exact ht h2
theorem bt_list (s : ByteArray) (i : Nat) (h : i < s.size) : bt s (i : Int) = ((s.data.toList[i]'(by simpa using h)).toNat : Int) := by
  unfold bt
  rw [Int.toNat_natCast, dif_pos h]
  rfl
/-- What a run of a queue stands on. -/
structure RI (w : World) (gq gx : Nat) (q0 q1 : Int) (x : S46) (v : Value) (out : List Int) (W : World) : Prop where
  bel : Below w.heap.size w W
  qb : W.heap[gq]? = some (boxQ q0 q1)
  xb : W.heap[gx]? = some (boxY x)
  row : Kd.R (Kd.int .i64) 2 W w.heap.size (fun k => some k = v.ownBlock) v out
  low : w.heap.size ≤ gx
  ne : gx ≠ gq
theorem RI.below {w : World} {gq gx : Nat} {q0 q1 : Int} {x : S46} {v : Value} {out : List Int} {W W' : World} (h : RI w gq gx q0 q1 x v out W) (hb : Below W.heap.size W W') : RI w gq gx q0 q1 x v out W' :=
  ⟨below_step h.bel hb, blk_below h.qb hb, blk_below h.xb hb, Kd.R_below h.row hb, h.low, h.ne⟩
theorem RI.step {w : World} {gq gx : Nat} {q0 q1 : Int} {x y : S46} {v : Value} {out : List Int} {W W' : World} (h : RI w gq gx q0 q1 x v out W) (hx : W'.heap[gx]? = some (boxY y)) (hk : KB gx W W') : RI w gq gx q0 q1 y v out W' :=
  ⟨hk.low h.bel h.low, hk.keep h.qb h.ne.symm, hx, Kd.R_step h.row (fun k e hlt => hk.block k hlt (kint_ne h.row h.xb (by decide) k e)), h.low, h.ne⟩
theorem RI.app {w : World} {gq gx : Nat} {q0 q1 : Int} {x : S46} {v v1 : Value} {out o2 : List Int} {W W' : World} (h : RI w gq gx q0 q1 x v out W) (hR : Kd.R (Kd.int .i64) 2 W' w.heap.size (fun _ => True) v1 o2) (hB : Below w.heap.size w W') (hg : W.grownBy W' v.ownBlock) : RI w gq gx q0 q1 x v1 o2 W' :=
  ⟨hB, blk_grown h.qb hg (fun e => kint_ne h.row h.qb (by decide) gq e rfl), blk_grown h.xb hg (fun e => kint_ne h.row h.xb (by decide) gx e rfl), Kd.R_tight rfl hR, h.low, h.ne⟩
set_option maxHeartbeats 3200000 in
set_option maxRecDepth 100000 in
theorem impl_RunQueue.calls (q0 q1 : Int) (s : ByteArray) (r1 : List Int) (r2 : Bool) (w : World) (h : impl_RunQueue.f q0 q1 s = some (r1, r2)) :
    Calls Tryd.prog 7 #[.agg #[.int .i64 q0, .int .i64 q1], .string s] w fun e w' => ∃ v0_ : Value, e = .returned (.tuple #[v0_, .bool r2]) ∧ Kd.R (Kd.int .i64) 2 w' w.heap.size (fun _ => True) v0_ r1 ∧ Below w.heap.size w w' := by
  have hu26 := Tryd.underlying26
  have hu80 := Tryd.underlying46
  unfold impl_RunQueue.f at h
  by_cases hc : impl_ValidQueue.f q0 q1 = some true ∧ impl_isOrder.f s = some true ∧ s.size ≤ 300
  · rw [if_pos hc] at h
    replace h := Option.bind_eq_some_iff.1 h
    obtain ⟨out, h1, h⟩ := h
    simp only [Option.some.injEq, Prod.mk.injEq] at h
    obtain ⟨rfl, rfl⟩ := h
    have H := Aside0.mk h1
    have HV := Aside0.mk hc.1
    have HO := Aside0.mk hc.2.1
    have HZ := Aside0.mk hc.2.2
    have HQ := Aside0.mk (blk_new w (boxQ q0 q1))
    have HB := Aside0.mk (below_alloc (Below.refl w.heap.size w) (boxQ q0 q1))
    obtain ⟨z0, z1⟩ := qq_cells HQ.out
    unfold boxQ at z0 z1
    have H' := Aside0.mk h1
    clear h1 hc
    go_enter Tryd.func7, Tryd.ntmps7
    go_wp2_with (first
      | (go_at_call 9; (with_reducible refine (impl_ValidQueue.calls q0 q1 true _ HV.out).mono ?_); rintro e w1 ⟨rfl, hb⟩; have Q1 := Aside0.mk (blk_below HQ.out hb); have B1 := Aside0.mk (below_step HB.out hb); clear hb)
      | (go_at_call 17; (with_reducible refine (impl_isOrder.calls s true _ HO.out).mono ?_); rintro e w2 ⟨rfl, hb⟩; have Q2 := Aside0.mk (blk_below Q1.out hb); have B2 := Aside0.mk (below_step B1.out hb); clear hb)
      | ((with_reducible refine gate_dst (N := 18) rfl ?_); refine Kd.R_lit (Kd.int .i64) w.heap.size 2 ?hg (N := 18) ?hd (w0 := w) (xs := ([] : List Int)) (inner := []) (ok := fun _ => True) (okp := fun _ => False) ?hr ?hp (fun _ hk => hk.elim) trivial B2.out B2.out.size (by simp) ?_; (case hd => rfl); (case hg => rfl); (case hr => first | (go_simp; done) | (go_simp; rfl)); (case hp => exact Reps.none _ _); intro v18 w3 ho hb hg_ hnew_; have R3 := Aside0.mk (Kd.R_tight rfl ho); have Q3 := Aside0.mk (blk_grown Q2.out hg_ (by simp)); have B3 := Aside0.mk hb; clear ho hb hg_ hnew_))
    clear z0 z1
    have LI := Aside0.mk (show RI w w.heap.size w3.heap.size q0 q1 ⟨0, 0, 0, 0, 0, 0, 0⟩ v18 [] (w3.alloc (boxY ⟨0, 0, 0, 0, 0, 0, 0⟩)) from ⟨below_alloc B3.out _, blk_alloc Q3.out _, blk_new w3 _, Kd.R_alloc R3.out _, B3.out.size, fun e => by have h_ := blk_lt Q3.out; omega⟩)
    clear H HV HO HQ HB Q1 B1 Q2 B2 R3 Q3 B3
    obtain ⟨gx, hgx⟩ : ∃ gx, w3.heap.size = gx := ⟨_, rfl⟩
    rw [hgx] at LI ⊢
    clear hgx
    go_loopw [7, 21] (fun v7 v21 wr => ∃ (i : Nat) (x : S46) (o : List Int), i ≤ s.size ∧ o.length = i ∧ v21 = .int .i64 (i : Int) ∧ Aside0 (runL q0 q1 (s.data.toList.drop i) x o = some out) ∧ Aside0 (RI w w.heap.size gx q0 q1 x v7 o wr)) (fun _ v21 _ => s.size - (intOf v21).toNat)
    case atStart => exact ⟨0, _, [], Nat.zero_le _, rfl, rfl, H', LI⟩
    case round =>
      clear H' LI
      obtain ⟨i, x, o, hi, ho, rfl, HA, HI⟩ := hrel
      have hl : s.data.toList.length = s.size := by simp
      by_cases hlt : i < s.size
      · have hlb : decide ((i : Int) < (s.size : Int)) = true := decide_eq_true (by omega)
        have hA := HA.out
        rw [List.drop_eq_getElem_cons (by omega), runL] at hA
        replace hA := Option.bind_eq_some_iff.1 hA
        obtain ⟨y, hy, hA⟩ := hA
        have HY := Aside0.mk (show stepF 100 q0 q1 x (((s[i]'hlt).toNat : Nat) : Int) = some y from hy)
        have HA := Aside0.mk hA
        have HL := Aside0.mk (show o.length ≤ 300 by have := HZ.out; omega)
        have HO2 := Aside0.mk ho
        have p0 := eq_true (show (0 : Int) ≤ (i : Int) by omega)
        have p1 := eq_true (show (i : Int) < (s.size : Int) by omega)
        obtain ⟨z0, z1⟩ := qq_cells HI.out.qb
        clear hA hy hl ho
        go_wp2
        go_region_held3 (fun w' => w'.cell? ⟨w.heap.size, 0, none⟩ = some (.int .i64 q0) ∧ w'.cell? ⟨w.heap.size, 1, none⟩ = some (.int .i64 q1))
          (first
            | exact ⟨(blk_cell I4.out.qb 0).trans rfl, (blk_cell I4.out.qb 1).trans rfl⟩
            | exact ⟨(blk_cell HI.out.qb 0).trans rfl, (blk_cell HI.out.qb 1).trans rfl⟩
            | go_keep)
          (first
            | (go_at_call 18; (with_reducible refine (stepF.calls 100 gx q0 q1 x (((s[i]'hlt).toNat : Nat) : Int) y _ ?hx HY.out).mono ?_); (case hx => exact HI.out.xb); rintro e w4 ⟨rfl, hx4, hk4⟩; have I4 := Aside0.mk ((HI.out.below (below_drew (Below.refl _ _))).step hx4 hk4); clear hx4 hk4))
        have hw1 : wrap64 ((i : Int) + 1) = ((i + 1 : Nat) : Int) := by have := HZ.out; unfold wrap64; omega
        have y6 : w4.cell? ⟨gx, 6, none⟩ = some (.int .i64 y.f6) := (blk_cell I4.out.xb 6).trans rfl
        go_wp2_with (first
          | ((with_reducible refine gate_builtin (b := .append) (xs := #[.tmp 29, .tmp 32]) rfl ?_); at_builtin; refine Kd.R_append (Kd.int .i64) (w0 := w) w.heap.size rfl (.tmp 29) (.tmp 32) 28 2 (.int .i64 0) 8 rfl Tryd.underlying28 info2_q rfl (by decide) (by omega) u7 o y.f6 [.int .i64 y.f6] (fun _ => True) (fun _ => False) rfl rfl ?aP (fun _ hk => hk.elim) ?aF ?aO ?aB ?aS ?aL ?_; (case aP => exact rfl); (case aF => exact fun _ _ => trivial); (case aO => exact Kd.R_mono I4.out.row (fun _ _ => trivial)); (case aB => exact I4.out.bel); (case aS => exact I4.out.bel.size); (case aL => have := HL.out; omega); intro v33 w5 hr hb hg_ hat_; have I5 := Aside0.mk (I4.out.app hr hb hg_); clear hr hb hg_ hat_))
        (try rw [hw1])
        exact ⟨⟨i + 1, y, o ++ [y.f6], by omega, by rw [List.length_append, HO2.out]; rfl, by go_num, HA, I5⟩, by simp [intOf]; omega⟩
      · have hlb : decide ((i : Int) < (s.size : Int)) = false := decide_eq_false (by omega)
        have hA := HA.out
        rw [List.drop_of_length_le (by omega), runL] at hA
        have hr := Option.some.inj hA
        subst hr
        clear hA
        go_wp2
        go_ret2
        exact ⟨_, rfl, Kd.R_mono HI.out.row (fun _ _ => trivial), HI.out.bel⟩
  · rw [if_neg hc] at h; cases h

end Go.Proofs.YtdgohcdemnmieaaDoor.A
/- All states behind a step of the program's queue. No conditions. -/
namespace Go.Proofs.YtdgohcdemnmieaaDoor.A
open Go.RowKit Go.Proofs.YtdgohcdemnmieaaDoorW.PrintWords Go.Proofs.YtdgohcdemnmieaaDoorW.PrintLast Go.Proofs.YtdgohcdemnmieaaDoorW.PrintMore
set_option linter.unusedVariables false
set_option linter.unusedSimpArgs false
/-- A state whose own copy has some bits turned. -/
def ownOf (y : S46) (letter old : Int) : S46 := if letter = 115 then ⟨y.f0, y.f1, Go.bits .xor .i64 y.f2 old, y.f3, y.f4, y.f5, y.f6⟩ else ⟨y.f0, y.f1, y.f2, Go.bits .xor .i64 y.f3 old, y.f4, y.f5, y.f6⟩
def afterL (q0 moved letter : Int) (y : S46) : Nat → Int → List S46 → Option (List S46)
  | 0, _, _ => none
  | n + 1, old, out =>
    if old < wrap64 (2 * q0) then
      if Go.bits .andNot .i64 old moved = 0 then (if out.length < 1099511627776 then afterL q0 moved letter y n (wrap64 (old + 1)) (out ++ [ownOf y letter old]) else none)
      else afterL q0 moved letter y n (wrap64 (old + 1)) out
    else some out
def afterF (k : Nat) (q0 q1 : Int) (x : S46) (letter : Int) : Option (List S46) := (stepF k q0 q1 x letter).bind fun y => if letter = 114 then afterL q0 y.f4 letter y k 0 [] else if letter = 115 then afterL q0 y.f5 letter y k 0 [] else none
set_option maxHeartbeats 6400000 in
set_option maxRecDepth 100000 in
theorem afterF.calls (k : Nat) (q0 q1 : Int) (x : S46) (letter : Int) (r : List S46) (w : World) (h : afterF k q0 q1 x letter = some r) :
    Calls Tryd.prog 31 #[.agg #[.int .i64 x.f0, .int .i64 x.f1, .int .i64 x.f2, .int .i64 x.f3, .int .i64 x.f4, .int .i64 x.f5, .int .i64 x.f6], .agg #[.int .i64 q0, .int .i64 q1], .int .u8 letter] w fun e w' => ∃ v : Value, e = .returned v ∧ k46.R 46 w' w.heap.size (fun _ => True) v r ∧ Below w.heap.size w w' := by
  have hu26 := Tryd.underlying26
  have hu80 := Tryd.underlying46
  replace h := Option.bind_eq_some_iff.1 h
  obtain ⟨y, hy, h⟩ := h
  have HY := Aside0.mk hy
  have HX := Aside0.mk (blk_alloc (blk_new w (boxY x)) (boxQ q0 q1))
  have HQ := Aside0.mk (blk_new (w.alloc (boxY x)) (boxQ q0 q1))
  rw [World.size_alloc] at HQ
  have HB := Aside0.mk (below_alloc (below_alloc (Below.refl w.heap.size w) (boxY x)) (boxQ q0 q1))
  obtain ⟨z0, z1⟩ := qq_cells HQ.out
  by_cases cr : letter = 114
  · rw [if_pos cr] at h
    subst cr
    have H := Aside0.mk h
    clear hy h
    go_enter Tryd.func31, Tryd.ntmps31
    go_wp2_with (first
      | (go_at_call 18; (with_reducible refine (stepF.calls k w.heap.size q0 q1 x 114 y _ ?hx HY.out).mono ?_); (case hx => exact HX.out); rintro e w2 ⟨rfl, hx2, hk2⟩; have X2 := Aside0.mk hx2; have Q2 := Aside0.mk (hk2.keep HQ.out (by omega)); have B2 := Aside0.mk (hk2.low HB.out (Nat.le_refl _)); clear hx2 hk2; obtain ⟨z0, z1⟩ := qq_cells Q2.out; obtain ⟨x0, x1, x2, x3, x4, x5, x6⟩ := y_cells X2.out)
      | ((with_reducible refine gate_dst (N := 20) rfl ?_); refine Kd.R_lit k46 w.heap.size 46 ?hg (N := 20) ?hd (w0 := w) (xs := []) (inner := []) (ok := fun k_ => k_ ≠ w.heap.size) (okp := fun _ => False) ?hr ?hp (fun _ hk => hk.elim) (by have := blk_lt X2.out; omega) B2.out B2.out.size (by simp) ?_; (case hd => rfl); (case hg => rfl); (case hr => first | (go_simp; done) | (go_simp; rfl)); (case hp => exact Reps.none _ _); intro v1 w3 ho hb hg_ hnew_; have B3 := Aside0.mk hb; have O3 := Aside0.mk ho; have X3 := Aside0.mk (blk_grown X2.out hg_ (by simp)); have Q3 := Aside0.mk (blk_grown Q2.out hg_ (by simp)); clear ho hb hg_ hnew_; obtain ⟨z0, z1⟩ := qq_cells Q3.out))
    go_loopg [8, 24] k (fun kq v8 v24 wr => ∃ (old : Int) (out : List S46), v24 = .int .i64 old ∧ Aside0 (afterL q0 y.f4 114 y kq old out = some r) ∧ Aside0 (kq ≤ k) ∧ Aside0 (k46.R 46 wr w.heap.size (fun k_ => k_ ≠ w.heap.size) v8 out) ∧ Aside0 (wr.heap[w.heap.size]? = some (boxY y)) ∧ Aside0 (Below w.heap.size w wr))
    case atStart => exact ⟨0, [], rfl, H, ⟨Nat.le_refl _⟩, O3, X3, B3⟩
    case round =>
      obtain ⟨old, out, rfl, HA, HK1, HO, HX, HB⟩ := hrel
      cases gk with
      | zero => exact absurd HA.out (by simp [afterL])
      | succ k1 =>
        have hA := HA.out
        clear HA
        simp only [afterL] at hA
        by_cases d0 : old < wrap64 (2 * q0)
        · rw [if_pos d0] at hA
          have d0b := decide_eq_true d0
          by_cases d1 : Go.bits .andNot .i64 old y.f4 = 0
          · rw [if_pos d1] at hA
            have d1b : (Go.bits .andNot .i64 old y.f4 != 0) = false := bne_eq_false_iff_eq.2 d1
            by_cases d2 : out.length < 1099511627776
            · rw [if_pos d2] at hA
              have HD2 := Aside0.mk d2
              have HA := Aside0.mk hA
              obtain ⟨x0, x1, x2, x3, x4, x5, x6⟩ := y_cells HX.out
              clear hA d0 d1 d2
              go_wp2_with (first
                | ((with_reducible refine gate_builtin (b := .append) (xs := #[.tmp 44, .tmp 46]) rfl ?_); at_builtin; refine Kd.R_append k46 (w0 := w) w.heap.size rfl (.tmp 44) (.tmp 46) 69 46 (.agg #[.int .i64 0, .int .i64 0, .int .i64 0, .int .i64 0, .int .i64 0, .int .i64 0, .int .i64 0]) 56 rfl Tryd.underlying69 info46 rfl (by decide) (by omega) u8 out (⟨y.f0, y.f1, y.f2, Go.bits .xor .i64 y.f3 old, y.f4, y.f5, y.f6⟩ : S46) [.int .i64 (y.f0), .int .i64 (y.f1), .int .i64 (y.f2), .int .i64 (Go.bits .xor .i64 y.f3 old), .int .i64 (y.f4), .int .i64 (y.f5), .int .i64 (y.f6)] (fun k_ => k_ ≠ w.heap.size) (fun _ => False) rfl ?aX ?aP (fun _ hk => hk.elim) ?aF ?aO ?aB ?aS ?aL ?_; (case aX => rw [World.size_alloc]; rfl); (case aP => exact k46_mkM _ _ _ (⟨y.f0, y.f1, y.f2, Go.bits .xor .i64 y.f3 old, y.f4, y.f5, y.f6⟩ : S46)); (case aF => exact (fun k_ hk => by have h1_ := blk_lt HX.out; have h2_ : wr.heap.size + 1 ≤ k_ := (by rw [World.size_alloc] at hk; exact hk); omega)); (case aO => exact Kd.R_alloc HO.out _); (case aB => exact below_alloc HB.out _); (case aS => exact (below_alloc HB.out _).size); (case aL => have := HD2.out; omega); intro v10 w10 ho hb hg hat; have O4 := Aside0.mk ho; have X10 := Aside0.mk (blk_grown (blk_alloc HX.out _) hg (fun e => HO.out.1 _ e.symm rfl)); have B10 := Aside0.mk hb; clear ho hb hg hat))
              go_roundg k1
              case measure => omega
              case rel => exact ⟨_, _, rfl, HA, ⟨by have := HK1.out; omega⟩, O4, X10, B10⟩
            · rw [if_neg d2] at hA; cases hA
          · rw [if_neg d1] at hA
            have d1b : (Go.bits .andNot .i64 old y.f4 != 0) = true := bne_iff_ne.2 d1
            have HA := Aside0.mk hA
            clear hA d0 d1
            go_wp2
            go_roundg k1
            case measure => omega
            case rel => exact ⟨_, _, rfl, HA, ⟨by have := HK1.out; omega⟩, HO, HX, HB⟩
        · rw [if_neg d0] at hA
          have d0b := decide_eq_false d0
          obtain rfl := Option.some.inj hA
          clear hA d0
          go_wp2
          go_ret
          exact ⟨_, rfl, Kd.R_mono HO.out (fun _ _ => trivial), HB.out⟩
  · rw [if_neg cr] at h
    by_cases cs : letter = 115
    · rw [if_pos cs] at h
      subst cs
      have H := Aside0.mk h
      clear hy h cr
      go_enter Tryd.func31, Tryd.ntmps31
      go_wp2_with (first
        | (go_at_call 18; (with_reducible refine (stepF.calls k w.heap.size q0 q1 x 115 y _ ?hx HY.out).mono ?_); (case hx => exact HX.out); rintro e w2 ⟨rfl, hx2, hk2⟩; have X2 := Aside0.mk hx2; have Q2 := Aside0.mk (hk2.keep HQ.out (by omega)); have B2 := Aside0.mk (hk2.low HB.out (Nat.le_refl _)); clear hx2 hk2; obtain ⟨z0, z1⟩ := qq_cells Q2.out; obtain ⟨x0, x1, x2, x3, x4, x5, x6⟩ := y_cells X2.out)
        | ((with_reducible refine gate_dst (N := 20) rfl ?_); refine Kd.R_lit k46 w.heap.size 46 ?hg (N := 20) ?hd (w0 := w) (xs := []) (inner := []) (ok := fun k_ => k_ ≠ w.heap.size) (okp := fun _ => False) ?hr ?hp (fun _ hk => hk.elim) (by have := blk_lt X2.out; omega) B2.out B2.out.size (by simp) ?_; (case hd => rfl); (case hg => rfl); (case hr => first | (go_simp; done) | (go_simp; rfl)); (case hp => exact Reps.none _ _); intro v1 w3 ho hb hg_ hnew_; have B3 := Aside0.mk hb; have O3 := Aside0.mk ho; have X3 := Aside0.mk (blk_grown X2.out hg_ (by simp)); have Q3 := Aside0.mk (blk_grown Q2.out hg_ (by simp)); clear ho hb hg_ hnew_; obtain ⟨z0, z1⟩ := qq_cells Q3.out))
      go_loopg [8, 24] k (fun kq v8 v24 wr => ∃ (old : Int) (out : List S46), v24 = .int .i64 old ∧ Aside0 (afterL q0 y.f5 115 y kq old out = some r) ∧ Aside0 (kq ≤ k) ∧ Aside0 (k46.R 46 wr w.heap.size (fun k_ => k_ ≠ w.heap.size) v8 out) ∧ Aside0 (wr.heap[w.heap.size]? = some (boxY y)) ∧ Aside0 (Below w.heap.size w wr))
      case atStart => exact ⟨0, [], rfl, H, ⟨Nat.le_refl _⟩, O3, X3, B3⟩
      case round =>
        obtain ⟨old, out, rfl, HA, HK1, HO, HX, HB⟩ := hrel
        cases gk with
        | zero => exact absurd HA.out (by simp [afterL])
        | succ k1 =>
          have hA := HA.out
          clear HA
          simp only [afterL] at hA
          by_cases d0 : old < wrap64 (2 * q0)
          · rw [if_pos d0] at hA
            have d0b := decide_eq_true d0
            by_cases d1 : Go.bits .andNot .i64 old y.f5 = 0
            · rw [if_pos d1] at hA
              have d1b : (Go.bits .andNot .i64 old y.f5 != 0) = false := bne_eq_false_iff_eq.2 d1
              by_cases d2 : out.length < 1099511627776
              · rw [if_pos d2] at hA
                have HD2 := Aside0.mk d2
                have HA := Aside0.mk hA
                obtain ⟨x0, x1, x2, x3, x4, x5, x6⟩ := y_cells HX.out
                clear hA d0 d1 d2
                go_wp2_with (first
                  | ((with_reducible refine gate_builtin (b := .append) (xs := #[.tmp 44, .tmp 46]) rfl ?_); at_builtin; refine Kd.R_append k46 (w0 := w) w.heap.size rfl (.tmp 44) (.tmp 46) 69 46 (.agg #[.int .i64 0, .int .i64 0, .int .i64 0, .int .i64 0, .int .i64 0, .int .i64 0, .int .i64 0]) 56 rfl Tryd.underlying69 info46 rfl (by decide) (by omega) u8 out (⟨y.f0, y.f1, Go.bits .xor .i64 y.f2 old, y.f3, y.f4, y.f5, y.f6⟩ : S46) [.int .i64 (y.f0), .int .i64 (y.f1), .int .i64 (Go.bits .xor .i64 y.f2 old), .int .i64 (y.f3), .int .i64 (y.f4), .int .i64 (y.f5), .int .i64 (y.f6)] (fun k_ => k_ ≠ w.heap.size) (fun _ => False) rfl ?aX ?aP (fun _ hk => hk.elim) ?aF ?aO ?aB ?aS ?aL ?_; (case aX => rw [World.size_alloc]; rfl); (case aP => exact k46_mkM _ _ _ (⟨y.f0, y.f1, Go.bits .xor .i64 y.f2 old, y.f3, y.f4, y.f5, y.f6⟩ : S46)); (case aF => exact (fun k_ hk => by have h1_ := blk_lt HX.out; have h2_ : wr.heap.size + 1 ≤ k_ := (by rw [World.size_alloc] at hk; exact hk); omega)); (case aO => exact Kd.R_alloc HO.out _); (case aB => exact below_alloc HB.out _); (case aS => exact (below_alloc HB.out _).size); (case aL => have := HD2.out; omega); intro v10 w10 ho hb hg hat; have O4 := Aside0.mk ho; have X10 := Aside0.mk (blk_grown (blk_alloc HX.out _) hg (fun e => HO.out.1 _ e.symm rfl)); have B10 := Aside0.mk hb; clear ho hb hg hat))
                go_roundg k1
                case measure => omega
                case rel => exact ⟨_, _, rfl, HA, ⟨by have := HK1.out; omega⟩, O4, X10, B10⟩
              · rw [if_neg d2] at hA; cases hA
            · rw [if_neg d1] at hA
              have d1b : (Go.bits .andNot .i64 old y.f5 != 0) = true := bne_iff_ne.2 d1
              have HA := Aside0.mk hA
              clear hA d0 d1
              go_wp2
              go_roundg k1
              case measure => omega
              case rel => exact ⟨_, _, rfl, HA, ⟨by have := HK1.out; omega⟩, HO, HX, HB⟩
          · rw [if_neg d0] at hA
            have d0b := decide_eq_false d0
            obtain rfl := Option.some.inj hA
            clear hA d0
            go_wp2
            go_ret
            exact ⟨_, rfl, Kd.R_mono HO.out (fun _ _ => trivial), HB.out⟩
    · rw [if_neg cs] at h; cases h
end Go.Proofs.YtdgohcdemnmieaaDoor.A
/- A map whose keys are the states of the program's queue. No conditions. -/
namespace Go.Proofs.YtdgohcdemnmieaaDoor.A
open Go.RowKit Go.Proofs.YtdgohcdemnmieaaDoorW.PrintWords Go.Proofs.YtdgohcdemnmieaaDoorW.PrintLast Go.Proofs.YtdgohcdemnmieaaDoorW.PrintMore
set_option linter.unusedVariables false
set_option linter.unusedSimpArgs false
def valY (x : S46) : Value := .agg #[.int .i64 x.f0, .int .i64 x.f1, .int .i64 x.f2, .int .i64 x.f3, .int .i64 x.f4, .int .i64 x.f5, .int .i64 x.f6]
def sameY (a b : S46) : Bool := (a.f0 == b.f0) && ((a.f1 == b.f1) && ((a.f2 == b.f2) && ((a.f3 == b.f3) && ((a.f4 == b.f4) && ((a.f5 == b.f5) && (a.f6 == b.f6))))))
theorem eqI (d : Nat) (a b : Int) (w : World) : (Op.equalIn (d + 1) 2 (.int .i64 a) (.int .i64 b)).run Tryd.prog w = .ok (a == b) w := by
  simp [Op.equalIn, run_underlying Tryd.underlying2]
theorem equalY (a b : S46) (w : World) : (Op.equal 46 (valY a) (valY b)).run Tryd.prog w = .ok (sameY a b) w := by
  show (Op.equalIn (9999 + 1) 46 (valY a) (valY b)).run Tryd.prog w = _
  refine eqA_of Tryd.underlying46 (by kernel_rfl) ?_
  refine eqf_cons rfl (a := .int .i64 a.f0) (b := .int .i64 b.f0) (by kernel_rfl) (by kernel_rfl) (eqI 9998 _ _ w) ?_
  refine eqf_cons rfl (a := .int .i64 a.f1) (b := .int .i64 b.f1) (by kernel_rfl) (by kernel_rfl) (eqI 9998 _ _ w) ?_
  refine eqf_cons rfl (a := .int .i64 a.f2) (b := .int .i64 b.f2) (by kernel_rfl) (by kernel_rfl) (eqI 9998 _ _ w) ?_
  refine eqf_cons rfl (a := .int .i64 a.f3) (b := .int .i64 b.f3) (by kernel_rfl) (by kernel_rfl) (eqI 9998 _ _ w) ?_
  refine eqf_cons rfl (a := .int .i64 a.f4) (b := .int .i64 b.f4) (by kernel_rfl) (by kernel_rfl) (eqI 9998 _ _ w) ?_
  refine eqf_cons rfl (a := .int .i64 a.f5) (b := .int .i64 b.f5) (by kernel_rfl) (by kernel_rfl) (eqI 9998 _ _ w) ?_
  exact eqf_last rfl (a := .int .i64 a.f6) (b := .int .i64 b.f6) (by kernel_rfl) (by kernel_rfl) (eqI 9998 _ _ w)
theorem checkY (em : Bool) (a : S46) (w : World) : (Instr.checkKey em 10000 46 (valY a)).run Tryd.prog w = .ok () w := by
  kernel_rfl
/-- The entries of a map that has been told these states. -/
def Entries (es : List MapEntry) (ks : List S46) : Prop := es.map (fun e => (e.key, e.val)) = ks.map (fun x => (valY x, Value.bool true))
theorem findAskY (y : S46) (w : World) : ∀ (es : List MapEntry) (ks : List S46) (i : Nat), Entries es ks → ∃ r, (Instr.findAsking 46 (valY y) es i).run Tryd.prog w = .ok r w ∧ r.isSome = ks.any (sameY y) ∧ ∀ p, r = some p → p.2 = .bool true
  | [], [], i, h => ⟨none, rfl, rfl, fun p e => by cases e⟩
  | [], k :: ks, i, h => by simp [Entries] at h
  | e :: es, [], i, h => by simp [Entries] at h
  | e :: es, k :: ks, i, h => by
    unfold Entries at h
    simp only [List.map_cons, List.cons.injEq, Prod.mk.injEq] at h
    obtain ⟨⟨h1, h2⟩, h3⟩ := h
    have hq := equalY y k w
    rw [← h1] at hq
    cases hs : sameY y k with
    | true =>
      rw [hs] at hq
      refine ⟨some (i, e.val), ?_, by simp [hs], fun p ep => by cases ep; exact h2⟩
      simp [Instr.findAsking, hq]
    | false =>
      rw [hs] at hq
      obtain ⟨r, hr, hi, hp⟩ := findAskY y w es ks (i + 1) h3
      refine ⟨r, ?_, by simp [hs, hi], hp⟩
      simp [Instr.findAsking, hq, hr]
theorem findKeyY (y : S46) (w : World) (es : List MapEntry) (ks : List S46) (h : Entries es ks) : ∃ r, (Instr.findKey 46 (valY y) es).run Tryd.prog w = .ok r w ∧ r.isSome = ks.any (sameY y) ∧ ∀ p, r = some p → p.2 = .bool true := by
  cases es with
  | nil =>
    cases ks with
    | nil => exact ⟨none, by simp [Instr.findKey, Instr.findNow, run_underlying Tryd.underlying46], rfl, fun p e => by cases e⟩
    | cons k ks => simp [Entries] at h
  | cons e es =>
    obtain ⟨r, hr, hi, hp⟩ := findAskY y w (e :: es) ks 0 h
    refine ⟨r, ?_, hi, hp⟩
    simp [Instr.findKey, Instr.findNow, Instr.sameNow, run_underlying Tryd.underlying46, hr]
/-- A map in memory that has been told these states. -/
def MapY (w : World) (bm : Nat) (ks : List S46) : Prop := ∃ es clock, w.heap[bm]? = some (.map es clock) ∧ Entries es.toList ks
theorem MapY.look {w : World} {bm : Nat} {ks : List S46} (h : MapY w bm ks) (y : S46) : (Instr.lookup 68 (.map (some bm)) (valY y) false).run Tryd.prog w = .ok (.bool (ks.any (sameY y))) w := by
  obtain ⟨es, clock, hb, he⟩ := h
  obtain ⟨r, hr, hi, hp⟩ := findKeyY y w es.toList ks he
  cases r with
  | none =>
    rw [← hi]
    have hz : (zeroValue 4).run Tryd.prog w = .ok (.bool false) w := by kernel_rfl
    simp [Instr.lookup, run_underlying Tryd.underlying68, Go.MapKept.run_getObj_map hb, checkY, hr, hz]
  | some p =>
    have := hp p rfl
    obtain ⟨p1, p2⟩ := p
    subst this
    rw [← hi]
    simp [Instr.lookup, run_underlying Tryd.underlying68, Go.MapKept.run_getObj_map hb, checkY, hr]
theorem MapY.upd {w : World} {bm : Nat} {ks : List S46} (h : MapY w bm ks) (y : S46) (hn : ks.any (sameY y) = false) : ∃ w', (Instr.mapUpdate 68 (.map (some bm)) (valY y) (.bool true)).run Tryd.prog w = .ok () w' ∧ MapY w' bm (ks ++ [y]) ∧ KS (fun i => i = bm) w w' ∧ w'.heap.size = w.heap.size := by
  obtain ⟨es, clock, hb, he⟩ := h
  obtain ⟨r, hr, hi, hp⟩ := findKeyY y w es.toList ks he
  rw [hn] at hi
  have : r = none := by cases r <;> simp_all
  subst this
  refine ⟨Go.ChangeMaps.setBlock w bm (.map (es.push { key := valY y, val := .bool true, born := clock }) (clock + 1)), ?_, ⟨_, _, Go.ChangeMaps.heap_setBlock_same hb _, ?_⟩, ⟨rfl, rfl, rfl, by simp [Go.ChangeMaps.setBlock], fun i hi' hne => Go.ChangeMaps.heap_setBlock_other hb _ hne⟩, by simp [Go.ChangeMaps.setBlock]⟩
  · simp [Instr.mapUpdate, run_underlying Tryd.underlying68, Go.MapKept.run_getObj_map hb, checkY, hr, Go.MapKept.run_setObj_map _ hb]; rfl
  · unfold Entries at he ⊢
    rw [Array.toList_push, List.map_append, he, List.map_append]
    rfl
end Go.Proofs.YtdgohcdemnmieaaDoor.A
/- A queue of groups: a slice that is cut at its head and appended to. No conditions. -/
namespace Go.Proofs.YtdgohcdemnmieaaDoor.A
open Go.RowKit Go.Proofs.YtdgohcdemnmieaaDoorW.PrintWords Go.Proofs.YtdgohcdemnmieaaDoorW.PrintLast Go.Proofs.YtdgohcdemnmieaaDoorW.PrintMore
set_option linter.unusedVariables false
set_option linter.unusedSimpArgs false
/-- A slice of elements of two cells (type e), anywhere in a block of the call's own. -/
def OpenIs (e : Nat) (w : World) (B : Nat) (v : Value) (cs : List Value) (n : Nat) : Prop :=
  ∃ b off cap cur, v = .slice (some ⟨b, off, none⟩) n cap ∧ B ≤ b ∧ w.heap[b]? = some (.cells cur e (0, 0)) ∧ n ≤ cap ∧ cap ≤ maxLen ∧ off + cap * 2 ≤ cur.size ∧ cs.length = n * 2 ∧ (cur.toList.drop off).take (n * 2) = cs
theorem OpenIs.keep {e : Nat} {w w' : World} {B : Nat} {v : Value} {cs : List Value} {n : Nat} {S : Nat → Prop} (h : OpenIs e w B v cs n) (k : KS S w w') (hS : ∀ i, v.ownBlock = some i → ¬ S i) : OpenIs e w' B v cs n := by
  obtain ⟨b, off, cap, cur, rfl, h1, h2, h3⟩ := h
  exact ⟨b, off, cap, cur, rfl, h1, k.keep h2 (hS b rfl), h3⟩
theorem OpenIs.below {e : Nat} {w w' : World} {B : Nat} {v : Value} {cs : List Value} {n : Nat} (h : OpenIs e w B v cs n) (k : Below w.heap.size w w') : OpenIs e w' B v cs n := by
  obtain ⟨b, off, cap, cur, rfl, h1, h2, h3⟩ := h
  exact ⟨b, off, cap, cur, rfl, h1, blk_below h2 k, h3⟩
theorem OpenIs.lt {e : Nat} {w : World} {B : Nat} {v : Value} {cs : List Value} {n : Nat} (h : OpenIs e w B v cs n) : ∀ k, v.ownBlock = some k → k < w.heap.size ∧ B ≤ k ∧ ∃ cur, w.heap[k]? = some (.cells cur e (0, 0)) := by
  obtain ⟨b, off, cap, cur, rfl, h1, h2, h3⟩ := h
  intro k hk
  cases hk
  exact ⟨blk_lt h2, h1, cur, h2⟩
theorem OpenIs.cell {e : Nat} {w : World} {B : Nat} {b off n cap : Nat} {cs : List Value} (h : OpenIs e w B (.slice (some ⟨b, off, none⟩) n cap) cs n) (j : Nat) (u : Value) (hu : cs[j]? = some u) : w.cell? ⟨b, off + j, none⟩ = some u := by
  obtain ⟨b, off, cap, cur, hv, h1, h2, h3, h4, h5, h6, h7⟩ := h
  injection hv with e1 e2 e3
  injection e1 with e1
  injection e1 with e4 e5
  subst e4; subst e5; subst e3
  rw [blk_cell h2]
  have hj : j < n * 2 := by rw [← h6]; exact (List.getElem?_eq_some_iff.1 hu).1
  rw [← h7, List.getElem?_take, if_pos hj, List.getElem?_drop] at hu
  simpa using hu
/-- The rest behind the head. -/
theorem OpenIs.tail {e : Nat} {w : World} {B b off n cap : Nat} {c0 c1 : Value} {cs : List Value} (h : OpenIs e w B (.slice (some ⟨b, off, none⟩) (n + 1) cap) (c0 :: c1 :: cs) (n + 1)) (A : Addr) (hA : A = ⟨b, off, none⟩ ∧ cap = 1 ∨ A = ⟨b, off + 2, none⟩) : OpenIs e w B (.slice (some A) n (cap - 1)) cs n := by
  obtain ⟨b, off, cap, cur, hv, h1, h2, h3, h4, h5, h6, h7⟩ := h
  injection hv with e1 e2 e3
  injection e1 with e1
  injection e1 with e4 e5
  subst e4; subst e5; subst e3
  have hl : cs.length = n * 2 := by simp at h6; omega
  have ht : (cur.toList.drop (off + 2)).take (n * 2) = cs := by
    have h8 := congrArg (List.drop 2) h7
    rw [List.drop_take, List.drop_drop] at h8
    rw [show (n + 1) * 2 - 2 = n * 2 by omega] at h8
    simpa using h8
  rcases hA with ⟨rfl, hc⟩ | rfl
  · subst hc
    obtain rfl : n = 0 := by omega
    have : cs = [] := by cases cs with | nil => rfl | cons => simp at hl
    subst this
    exact ⟨_, _, _, _, rfl, h1, h2, by omega, by omega, by omega, by simp, by simp⟩
  · exact ⟨_, _, _, _, rfl, h1, h2, by omega, by omega, by omega, hl, ht⟩
section
variable {P : Program} {ops : Array Oper} {rest : List Oper} {o : Oper} {a : Act} {Q : Exit → Act → World → Prop}
/-- One element of two cells is appended. -/
theorem open_append {W : World} (B : Nat) (hgd : o.guard = none) (s x : Operand) (t e : TypeId) (z : Value) (bytes : Nat)
    (ho : o.op = .call { callee := .builtin .append, args := #[s, x], argTypes := #[t, t] })
    (ht : P.underlying t = some (.slice e)) (hinfo : (P.info? e).map (fun i => (i.zero, i.size, i.bytes)) = some (some z, 2, bytes)) (hz : z.cells.size = 2) (hb0 : 0 < bytes)
    (v : Value) (cs : List Value) (n : Nat) (c0 c1 : Value) (h1c : c0.oneCell' = true ∧ c1.oneCell' = true) (hs : a.eval s = v) (hx : a.eval x = .slice (some ⟨W.heap.size, 0, none⟩) 1 1)
    (HO : OpenIs e W B v cs n) (hbase : B ≤ W.heap.size) (hl : (n + 1) * bytes ≤ 140737488355328)
    (h : ∀ v1 w1, OpenIs e w1 B v1 (cs ++ [c0, c1]) (n + 1) → KS (fun i => v.ownBlock = some i) W w1 → wpList P ops Q rest (a.put o.dst v1) w1) :
    wpList P ops Q (o :: rest) a (W.alloc (.cells #[c0, c1] e)) := by
  obtain ⟨b, off, cap, cur, rfl, hB, hh, hn, hc, hsz, hlen, htake⟩ := HO
  obtain ⟨i0, hi, hzz⟩ := Option.map_eq_some_iff.1 hinfo
  simp only [Prod.mk.injEq] at hzz
  obtain ⟨hz0, hz1, hz2⟩ := hzz
  have hlen1 : n + 1 ≤ 140737488355328 := Nat.le_trans (Nat.le_mul_of_pos_right _ hb0) hl
  have hh' := blk_alloc hh (.cells #[c0, c1] e)
  have hnw := blk_new W (.cells #[c0, c1] e)
  refine wpList_append_arg (W.alloc (.cells #[c0, c1] e)) hgd s x t ho e i0 z 2 bytes ht hi hz0 hz1 hz2 hz (by omega) b off n cap cs hs hlen ?c0 ⟨W.heap.size, 0, none⟩ 1 1 [c0, c1] hx rfl ?c1 ?c2 ?sp (by simp only [maxLen]; omega) hl ?room ?grow
  case c0 =>
    intro j u hu
    have hj : j < n * 2 := by rw [← hlen]; exact (List.getElem?_eq_some_iff.1 hu).1
    rw [blk_cell hh']
    rw [← htake, List.getElem?_take, if_pos hj, List.getElem?_drop] at hu
    simpa using hu
  case c1 =>
    intro j u hu
    rcases j with _ | _ | j
    · cases hu; exact (blk_cell hnw 0).trans rfl
    · cases hu; exact (blk_cell hnw 1).trans rfl
    · simp at hu
  case c2 =>
    intro u hu
    simp only [List.mem_cons, List.not_mem_nil, or_false] at hu
    rcases hu with rfl | rfl
    · exact h1c.1
    · exact h1c.2
  case sp =>
    intro hr j hj
    refine ⟨?_, blk_frozen hh' _⟩
    rw [blk_cell hh']
    have hj2 : j < 2 := hj
    have : off + n * 2 + j < cur.size := by omega
    simp [this]
  case room =>
    intro hr
    refine h _ _ ⟨b, off, cap, _, rfl, hB, blk_set (blk_set hh' (off + n * 2) c0) (off + n * 2 + 1) c1, hr, hc, by simpa using hsz, by simp; omega, ?_⟩ ?_
    · have hk : off + n * 2 + 1 < cur.size := by omega
      simp only [Array.toList_setIfInBounds]
      apply List.ext_getElem?
      intro j
      rw [List.getElem?_take, List.getElem?_drop]
      by_cases hj : j < n * 2
      · rw [if_pos (by omega), List.getElem?_set_ne (by omega), List.getElem?_set_ne (by omega), List.getElem?_append_left (by omega), ← htake, List.getElem?_take, if_pos hj, List.getElem?_drop]
      · by_cases hj0 : j = n * 2
        · subst hj0
          rw [if_pos (by omega), List.getElem?_set_ne (by omega), List.getElem?_set_self (by simp; omega), List.getElem?_append_right (by omega)]
          simp [hlen]
        · by_cases hj1 : j = n * 2 + 1
          · subst hj1
            rw [if_pos (by omega), show off + (n * 2 + 1) = off + n * 2 + 1 by omega, List.getElem?_set_self (by simp; omega), List.getElem?_append_right (by omega)]
            simp [hlen]
          · rw [if_neg (by omega)]
            symm
            apply List.getElem?_eq_none
            simp; omega
    · show KS _ W (((W.alloc _).setCell ⟨b, off + n * 2, none⟩ c0).setCell ⟨b, off + n * 2 + 1, none⟩ c1)
      exact KS.set (KS.set (KS.alloc (KS.refl (fun i => (Value.slice (some ⟨b, off, none⟩) n cap).ownBlock = some i) W) _) b _ _ (fun _ => rfl)) b _ _ (fun _ => rfl)
  case grow =>
    intro hr v' w' hown hg
    obtain ⟨hlo, hv⟩ := hown
    rcases hv with ⟨_, hv⟩ | ⟨g, cap', cur', rfl, hg1, hg2, hg3, hg4, hg5, hg6⟩
    · omega
    have hsz2 : W.heap.size ≤ g := by rw [World.size_alloc] at hg1; omega
    refine h _ _ ⟨g, 0, cap', cur', rfl, by omega, hg2, hg3, hg4, by omega, by simp; omega, by simpa using hg6⟩ ?_
    exact (KS.alloc (KS.refl _ W) _).below (Below.grown (Below.refl _ _) hg (Nat.le_refl _) (fun k e => by cases e))
end
end Go.Proofs.YtdgohcdemnmieaaDoor.A
/- The program's search for a queue's fault. No conditions. -/
namespace Go.Proofs.YtdgohcdemnmieaaDoor.A
open Go.RowKit Go.Proofs.YtdgohcdemnmieaaDoorW.PrintWords Go.Proofs.YtdgohcdemnmieaaDoorW.PrintLast Go.Proofs.YtdgohcdemnmieaaDoorW.PrintMore
set_option linter.unusedVariables false
set_option linter.unusedSimpArgs false
def oneB (L : Int) : ByteArray := ⟨#[UInt8.ofNat L.toNat]⟩
def qfOwn (q0 : Int) (order : ByteArray) (next : List S46 → List S46 → Option (ByteArray × Bool)) : List S46 → List S46 → List S46 → Option (ByteArray × Bool)
  | [], nst, seen => next nst seen
  | y :: rest, nst, seen =>
    if 0 ≤ y.f6 ∧ y.f6 ≤ q0 then
      if seen.any (sameY y) = true then qfOwn q0 order next rest nst seen
      else if nst.length < 1099511627776 then qfOwn q0 order next rest (nst ++ [y]) (seen ++ [y]) else none
    else some (order, true)
def qfSt (K : Nat) (q0 q1 L : Int) (order : ByteArray) (next : List S46 → List S46 → Option (ByteArray × Bool)) : List S46 → List S46 → List S46 → Option (ByteArray × Bool)
  | [], nst, seen => next nst seen
  | x :: xs, nst, seen => (afterF K q0 q1 x L).bind fun l => if l.length < 1099511627776 then qfOwn q0 order (fun nst seen => qfSt K q0 q1 L order next xs nst seen) l nst seen else none
def qfLet (K : Nat) (q0 q1 : Int) (o : ByteArray) (st : List S46) (next : List (ByteArray × List S46) → List S46 → Option (ByteArray × Bool)) : List Int → List (ByteArray × List S46) → List S46 → Option (ByteArray × Bool)
  | [], opn, seen => next opn seen
  | L :: Ls, opn, seen =>
    if (o ++ oneB L).size ≤ 9223372036854775807 ∧ opn.length < 1099511627776 ∧ st.length < 1099511627776 then
      qfSt K q0 q1 L (o ++ oneB L) (fun nst seen => if nst.length = 0 then qfLet K q0 q1 o st next Ls opn seen else qfLet K q0 q1 o st next Ls (opn ++ [(o ++ oneB L, nst)]) seen) st [] seen
    else none
def qfRow (K : Nat) (q0 q1 : Int) : Nat → List (ByteArray × List S46) → List S46 → Option (ByteArray × Bool)
  | 0, _, _ => none
  | n + 1, [], seen => some (ByteArray.empty, false)
  | n + 1, g :: gs, seen => qfLet K q0 q1 g.1 g.2 (fun opn seen => qfRow K q0 q1 n opn.tail seen) [114, 115] (g :: gs) seen
def qfF (K : Nat) (q0 q1 : Int) : Option (ByteArray × Bool) := qfRow K q0 q1 K [(ByteArray.empty, [z46])] [z46]
abbrev Grp := ByteArray × List S46 × Value
def projG (G : List Grp) : List (ByteArray × List S46) := G.map (fun g => (g.1, g.2.1))
def cellsG (G : List Grp) : List Value := G.flatMap (fun g => [.string g.1, g.2.2])
structure QI (w : World) (gq bm : Nat) (q0 q1 : Int) (G : List Grp) (seen : List S46) (wr : World) (v5 : Value) (ok : Nat → Prop) : Prop where
  opn : OpenIs 71 wr w.heap.size v5 (cellsG G) G.length
  inn : ∀ g ∈ G, k46.R 46 wr w.heap.size ok g.2.2 g.2.1
  map : MapY wr bm seen
  q : wr.heap[gq]? = some (boxQ q0 q1)
  bel : Below w.heap.size w wr
theorem MapY.keep {w w' : World} {bm : Nat} {ks : List S46} {S : Nat → Prop} (h : MapY w bm ks) (k : KS S w w') (hS : ¬ S bm) : MapY w' bm ks := by
  obtain ⟨es, clock, hb, he⟩ := h
  exact ⟨es, clock, k.keep hb hS, he⟩
theorem MapY.below {w w' : World} {bm : Nat} {ks : List S46} (h : MapY w bm ks) (k : Below w.heap.size w w') : MapY w' bm ks := by
  obtain ⟨es, clock, hb, he⟩ := h
  exact ⟨es, clock, blk_below hb k, he⟩
theorem R80.keep {wr w' : World} {B : Nat} {ok : Nat → Prop} {v : Value} {xs : List S46} {S : Nat → Prop} (h : k46.R 46 wr B ok v xs) (k : KS S wr w') (hS : ∀ i cells, wr.heap[i]? = some (.cells cells 46 (0, 0)) → ok i → ¬ S i) : k46.R 46 w' B ok v xs :=
  Kd.R_mono (Kd.R_step (Kd.R_bound h) (fun i hi hlt => k.block i hlt (by
    obtain ⟨h1, _, _, q, hq, cells, hc⟩ := hi
    have hq' : q = 46 := by simpa [k46, Kd.iso, Kd.pair, Kd.int, Kd.scalar] using hq
    subst hq'
    exact hS i cells hc h1))) (fun _ h => h.1)
theorem MapY.ne {w : World} {bm g t : Nat} {ks : List S46} {cs : Array Value} {fr : Nat × Nat} (h : MapY w bm ks) (hg : w.heap[g]? = some (.cells cs t fr)) : g ≠ bm := by
  intro e
  subst e
  obtain ⟨es, clock, hb, _⟩ := h
  rw [hb] at hg
  cases hg
theorem QI.keep {w : World} {gq bm : Nat} {q0 q1 : Int} {G : List Grp} {seen : List S46} {wr w' : World} {v5 : Value} {ok : Nat → Prop} {S : Nat → Prop} (h : QI w gq bm q0 q1 G seen wr v5 ok) (k : KS S wr w') (h5 : ∀ i cells, wr.heap[i]? = some (.cells cells 71 (0, 0)) → v5.ownBlock = some i → ¬ S i) (hok : ∀ i cells, wr.heap[i]? = some (.cells cells 46 (0, 0)) → ok i → ¬ S i) (hm : ¬ S bm) (hq : ¬ S gq) (hS : ∀ i, S i → w.heap.size ≤ i) : QI w gq bm q0 q1 G seen w' v5 ok :=
  ⟨h.opn.keep k (fun i hi => by obtain ⟨_, _, cur, hc⟩ := h.opn.lt i hi; exact h5 i cur hc hi), fun g hg => R80.keep (h.inn g hg) k hok, h.map.keep k hm, k.keep h.q hq, k.low h.bel hS⟩
theorem QI.below {w : World} {gq bm : Nat} {q0 q1 : Int} {G : List Grp} {seen : List S46} {wr w' : World} {v5 : Value} {ok : Nat → Prop} (h : QI w gq bm q0 q1 G seen wr v5 ok) (k : Below wr.heap.size wr w') : QI w gq bm q0 q1 G seen w' v5 ok :=
  ⟨h.opn.below k, fun g hg => Kd.R_below (h.inn g hg) k, h.map.below k, blk_below h.q k, below_step h.bel k⟩
theorem QI.weak {w : World} {gq bm : Nat} {q0 q1 : Int} {G : List Grp} {seen : List S46} {wr : World} {v5 : Value} {ok ok' : Nat → Prop} (h : QI w gq bm q0 q1 G seen wr v5 ok) (hk : ∀ i, i < wr.heap.size → ok i → ok' i) : QI w gq bm q0 q1 G seen wr v5 ok' :=
  ⟨h.opn, fun g hg => Kd.R_mono (Kd.R_bound (h.inn g hg)) (fun i hi => hk i hi.2.2.1 hi.1), h.map, h.q, h.bel⟩
/-- What there is in memory while a letter's states are gone through. -/
structure QN (w : World) (gq bm : Nat) (q0 q1 : Int) (G : List Grp) (seen : List S46) (wr : World) (v5 : Value) (g8 gl : Nat) (OO : ByteArray) (nst : List S46) (nv : Value) : Prop where
  qi : QI w gq bm q0 q1 G seen wr v5 (fun k => nv.ownBlock ≠ some k)
  nx : k46.R 46 wr w.heap.size (fun _ => True) nv nst
  bx : wr.heap[g8]? = some (.cells #[.string OO, nv] 71 (0, 0))
  lt : ∀ k, v5.ownBlock = some k → k ≠ g8
  ge : w.heap.size ≤ g8
  ll : wr.heap[gl]? = some (.cells #[.int .u8 114, .int .u8 115] 5 (2, 3))
theorem QN.below {w : World} {gq bm : Nat} {q0 q1 : Int} {G : List Grp} {seen : List S46} {wr w' : World} {v5 : Value} {g8 gl : Nat} {OO : ByteArray} {nst : List S46} {nv : Value} (h : QN w gq bm q0 q1 G seen wr v5 g8 gl OO nst nv) (k : Below wr.heap.size wr w') : QN w gq bm q0 q1 G seen w' v5 g8 gl OO nst nv :=
  ⟨h.qi.below k, Kd.R_below h.nx k, blk_below h.bx k, h.lt, h.ge, blk_below h.ll k⟩
theorem cells_type {w : World} {g t t' : Nat} {cs cs' : Array Value} {fr fr' : Nat × Nat} (h : w.heap[g]? = some (.cells cs t fr)) (h' : w.heap[g]? = some (.cells cs' t' fr')) : t = t' := by
  rw [h] at h'
  cases h'
  rfl
/-- A state is told to the map. -/
theorem QN.told {w : World} {gq bm : Nat} {q0 q1 : Int} {G : List Grp} {seen seen' : List S46} {wr w' : World} {v5 : Value} {g8 gl : Nat} {OO : ByteArray} {nst : List S46} {nv : Value} (h : QN w gq bm q0 q1 G seen wr v5 g8 gl OO nst nv) (k : KS (fun i => i = bm) wr w') (hm : MapY w' bm seen') (hge : w.heap.size ≤ bm) : QN w gq bm q0 q1 G seen' w' v5 g8 gl OO nst nv :=
  have hb := h.qi.map
  ⟨⟨h.qi.opn.keep k (fun i hi => by obtain ⟨_, _, cur, hc⟩ := h.qi.opn.lt i hi; exact hb.ne hc), fun g hg => R80.keep (h.qi.inn g hg) k (fun i cells hc _ => hb.ne hc), hm, k.keep h.qi.q (hb.ne h.qi.q), k.low h.qi.bel (fun i e => by omega)⟩,
   R80.keep h.nx k (fun i cells hc _ => hb.ne hc), k.keep h.bx (hb.ne h.bx), h.lt, h.ge, k.keep h.ll (hb.ne h.ll)⟩
/-- A state is appended to the next group, whose value is then stored. -/
theorem QN.more {w : World} {gq bm : Nat} {q0 q1 : Int} {G : List Grp} {seen : List S46} {wr w1 : World} {v5 : Value} {g8 gl : Nat} {OO : ByteArray} {nst nst' : List S46} {nv nv' : Value} (h : QN w gq bm q0 q1 G seen wr v5 g8 gl OO nst nv) (ho : k46.R 46 w1 w.heap.size (fun _ => True) nv' nst') (hb : Below w.heap.size w w1) (hg : wr.grownBy w1 nv.ownBlock) (hat : nv'.ownBlock = nv.ownBlock ∨ ∃ b, nv'.ownBlock = some b ∧ wr.heap.size ≤ b) : QN w gq bm q0 q1 G seen (w1.setCell ⟨g8, 1, none⟩ nv') v5 g8 gl OO nst' nv' := by
  have k : KS (fun i => nv.ownBlock = some i) wr w1 := ⟨hb.os.trans h.qi.bel.os.symm, hb.tape.trans h.qi.bel.tape.symm, hb.output.trans h.qi.bel.output.symm, hg.size, fun i hi hn => hg.block i hi (fun e => hn e.symm)⟩
  have hty : ∀ i, nv.ownBlock = some i → ∃ cells, wr.heap[i]? = some (.cells cells 46 (0, 0)) := Kd.R_typed h.nx
  have ne : ∀ g t cs fr, wr.heap[g]? = some (.cells cs t fr) → t ≠ 46 → ¬ nv.ownBlock = some g := fun g t cs fr hc ht e => by obtain ⟨c2, h2⟩ := hty g e; exact ht (cells_type hc h2)
  have hm : ¬ nv.ownBlock = some bm := fun e => by obtain ⟨c2, h2⟩ := hty bm e; exact h.qi.map.ne h2 rfl
  have q1' : QI w gq bm q0 q1 G seen w1 v5 (fun i => nv.ownBlock ≠ some i) := h.qi.keep k (fun i cells hc _ => ne i 71 cells _ hc (by decide)) (fun i cells hc hn => hn) hm (ne gq _ _ _ h.qi.q (by decide)) (fun i e => Kd.R_base h.nx i e)
  have bx1 : w1.heap[g8]? = some (.cells #[.string OO, nv] 71 (0, 0)) := k.keep h.bx (ne g8 _ _ _ h.bx (by decide))
  have ll1 := k.keep h.ll (ne gl _ _ _ h.ll (by decide))
  have q2 : QI w gq bm q0 q1 G seen w1 v5 (fun i => nv'.ownBlock ≠ some i) := by
    refine ⟨q1'.opn, fun g hg' => ?_, q1'.map, q1'.q, q1'.bel⟩
    have h1 := Kd.R_bound (h.qi.inn g hg')
    have h2 : k46.R 46 w1 w.heap.size (fun i => nv'.ownBlock ≠ some i) g.2.2 g.2.1 := by
      refine Kd.R_mono (Kd.R_step h1 (fun i hi hlt => k.block i hlt (fun e => hi.1 e))) (fun i hi e => ?_)
      rcases hat with e2 | ⟨b, e2, hb2⟩
      · rw [e2] at e; exact hi.1 e
      · rw [e2] at e; cases e; have := hi.2.2.1; omega
    exact h2
  have k2 : KS (fun i => i = g8) w1 (w1.setCell ⟨g8, 1, none⟩ nv') := KS.set (KS.refl _ w1) g8 1 _ (fun _ => rfl)
  exact ⟨q2.keep k2 (fun i cells hc hi => h.lt i hi) (fun i cells hc _ e => by subst e; exact absurd (cells_type hc bx1) (by decide)) (fun e => by subst e; exact q2.map.ne bx1 rfl) (fun e => by subst e; exact absurd (cells_type q2.q bx1) (by decide)) (fun i e => by rw [e]; exact h.ge),
    R80.keep ho k2 (fun i cells hc _ e => by subst e; exact absurd (cells_type hc bx1) (by decide)), blk_put bx1 1 nv' rfl, h.lt, h.ge, k2.keep ll1 (fun e => by subst e; exact absurd (cells_type ll1 bx1) (by decide))⟩
/-- Another row of states, while the next group gets one more. -/
theorem RA.more {w : World} {gq bm : Nat} {q0 q1 : Int} {G : List Grp} {seen : List S46} {wr w1 : World} {v5 : Value} {g8 gl : Nat} {OO : ByteArray} {nst nst' : List S46} {nv nv' va : Value} {l : List S46} (h : QN w gq bm q0 q1 G seen wr v5 g8 gl OO nst nv) (ha : k46.R 46 wr w.heap.size (fun k => nv.ownBlock ≠ some k) va l) (ho : k46.R 46 w1 w.heap.size (fun _ => True) nv' nst') (hb : Below w.heap.size w w1) (hg : wr.grownBy w1 nv.ownBlock) (hat : nv'.ownBlock = nv.ownBlock ∨ ∃ b, nv'.ownBlock = some b ∧ wr.heap.size ≤ b) : k46.R 46 (w1.setCell ⟨g8, 1, none⟩ nv') w.heap.size (fun k => nv'.ownBlock ≠ some k) va l := by
  have k : KS (fun i => nv.ownBlock = some i) wr w1 := ⟨hb.os.trans h.qi.bel.os.symm, hb.tape.trans h.qi.bel.tape.symm, hb.output.trans h.qi.bel.output.symm, hg.size, fun i hi hn => hg.block i hi (fun e => hn e.symm)⟩
  have hty : ∀ i, nv.ownBlock = some i → ∃ cells, wr.heap[i]? = some (.cells cells 46 (0, 0)) := Kd.R_typed h.nx
  have bx1 : w1.heap[g8]? = some (.cells #[.string OO, nv] 71 (0, 0)) := k.keep h.bx (fun e => by obtain ⟨c2, h2⟩ := hty g8 e; exact absurd (cells_type h.bx h2) (by decide))
  have h2 : k46.R 46 w1 w.heap.size (fun i => nv'.ownBlock ≠ some i) va l := by
    refine Kd.R_mono (Kd.R_step (Kd.R_bound ha) (fun i hi hlt => k.block i hlt (fun e => hi.1 e))) (fun i hi e => ?_)
    rcases hat with e2 | ⟨b, e2, hb2⟩
    · rw [e2] at e; exact hi.1 e
    · rw [e2] at e; cases e; have := hi.2.2.1; omega
  exact R80.keep h2 (KS.set (KS.refl (fun i => i = g8) w1) g8 1 _ (fun _ => rfl)) (fun i cells hc _ e => by subst e; exact absurd (cells_type hc bx1) (by decide))
/-- The next group goes to the end of the queue. -/
theorem QN.push {w : World} {gq bm : Nat} {q0 q1 : Int} {G : List Grp} {seen : List S46} {wr w1 : World} {v5 v1 : Value} {g8 gl : Nat} {OO : ByteArray} {nst : List S46} {nv : Value} (h : QN w gq bm q0 q1 G seen wr v5 g8 gl OO nst nv) (ho : OpenIs 71 w1 w.heap.size v1 (cellsG G ++ [.string OO, nv]) (G.length + 1)) (k : KS (fun i => v5.ownBlock = some i) wr w1) : QI w gq bm q0 q1 (G ++ [(OO, nst, nv)]) seen w1 v1 (fun _ => True) ∧ w1.heap[gl]? = some (.cells #[.int .u8 114, .int .u8 115] 5 (2, 3)) := by
  have ne : ∀ g t cs fr, wr.heap[g]? = some (.cells cs t fr) → t ≠ 71 → ¬ v5.ownBlock = some g := fun g t cs fr hc ht e => by obtain ⟨_, _, c2, h2⟩ := h.qi.opn.lt g e; exact ht (cells_type hc h2)
  refine ⟨⟨?_, ?_, h.qi.map.keep k (fun e => ?_), k.keep h.qi.q (ne gq _ _ _ h.qi.q (by decide)), k.low h.qi.bel (fun i e => (h.qi.opn.lt i e).2.1)⟩, k.keep h.ll (ne gl _ _ _ h.ll (by decide))⟩
  · have e1 : cellsG (G ++ [(OO, nst, nv)]) = cellsG G ++ [.string OO, nv] := by simp [cellsG]
    have e2 : (G ++ [(OO, nst, nv)]).length = G.length + 1 := by simp
    rw [e1, e2]
    exact ho
  · intro g hg
    rcases List.mem_append.1 hg with hg | hg
    · exact Kd.R_mono (R80.keep (h.qi.inn g hg) k (fun i cells hc _ => ne i 46 cells _ hc (by decide))) (fun _ _ => trivial)
    · simp only [List.mem_singleton] at hg
      subst hg
      exact R80.keep h.nx k (fun i cells hc _ => ne i 46 cells _ hc (by decide))
  · obtain ⟨_, _, c2, h2⟩ := h.qi.opn.lt bm e
    exact h.qi.map.ne h2 rfl
theorem info71 : (Tryd.prog.info? 71).map (fun i => (i.zero, i.size, i.bytes)) = some (some (.agg #[.string ByteArray.empty, .slice none 0 0]), 2, 40) := by kernel_rfl
theorem convR (W : World) : (convert 21 9 (.int .i32 114)).run Tryd.prog W = .ok (.string (oneB 114)) W := by kernel_rfl
theorem convS (W : World) : (convert 21 9 (.int .i32 115)).run Tryd.prog W = .ok (.string (oneB 115)) W := by kernel_rfl
end Go.Proofs.YtdgohcdemnmieaaDoor.A
/- The program's search at the reflected queue of depth 4, told in pieces. No conditions. -/
namespace Go.Proofs.YtdgohcdemnmieaaDoor.A
open Go.RowKit Go.Proofs.YtdgohcdemnmieaaDoorW.PrintWords Go.Proofs.YtdgohcdemnmieaaDoorW.PrintLast Go.Proofs.YtdgohcdemnmieaaDoorW.PrintMore
set_option maxRecDepth 100000
set_option linter.unusedVariables false
def decL : Nat → Nat → List UInt8 → List UInt8
  | 0, _, acc => acc
  | f + 1, n, acc => if n ≤ 1 then acc else decL f (n / 2) ((if n % 2 = 1 then 115 else 114) :: acc)
def decO (n : Nat) : ByteArray := ⟨(decL 64 n []).toArray⟩
def decY (n : Nat) : S46 := ⟨Int.ofNat (n / 262144 % 8), Int.ofNat (n / 32768 % 8), Int.ofNat (n / 4096 % 8), Int.ofNat (n / 512 % 8), Int.ofNat (n / 64 % 8), Int.ofNat (n / 8 % 8), Int.ofNat (n % 8)⟩
def qfRowN (K : Nat) (q0 q1 : Int) : Nat → (List (ByteArray × List S46) → List S46 → Option (ByteArray × Bool)) → List (ByteArray × List S46) → List S46 → Option (ByteArray × Bool)
  | 0, fin, opn, seen => fin opn seen
  | m + 1, fin, [], seen => some (ByteArray.empty, false)
  | m + 1, fin, g :: gs, seen => qfLet K q0 q1 g.1 g.2 (fun opn seen => qfRowN K q0 q1 m fin opn.tail seen) [114, 115] (g :: gs) seen
theorem qfRow_pieces (K : Nat) (q0 q1 : Int) (n : Nat) : ∀ (m : Nat) (opn : List (ByteArray × List S46)) (seen : List S46), qfRow K q0 q1 (m + n) opn seen = qfRowN K q0 q1 m (fun o s => qfRow K q0 q1 n o s) opn seen
  | 0, opn, seen => by rw [Nat.zero_add]; rfl
  | m + 1, [], seen => by rw [show m + 1 + n = (m + n) + 1 by omega]; simp only [qfRow, qfRowN]
  | m + 1, g :: gs, seen => by
    rw [show m + 1 + n = (m + n) + 1 by omega]
    simp only [qfRow, qfRowN]
    rw [show (fun (opn : List (ByteArray × List S46)) seen => qfRow K q0 q1 (m + n) opn.tail seen) = (fun opn seen => qfRowN K q0 q1 m (fun o s => qfRow K q0 q1 n o s) opn.tail seen) from funext fun o => funext fun s => qfRow_pieces K q0 q1 n m o.tail s]
def qfC : List Nat := [0, 262209, 262721, 524418, 295496, 294984, 524930, 525954, 786499, 561801, 557705, 561289, 557193, 558729, 787011, 788035, 787523, 1048836, 562825, 823882, 819786, 823370, 819274, 591504, 590480, 824906, 820810, 820298, 1049348, 1050372, 1049860, 1051908, 595600, 594576, 824394, 1086219, 1082123, 1085707, 1081611, 865873,
  857681, 864849, 856657, 857169, 853073, 853585, 1087243, 1083147, 1086731, 1082635, 1084683, 1088779, 1348172, 1344076, 1347660, 1343564, 865361, 1128210, 1120018, 1127186, 1118994, 889928, 890440, 885832, 886344, 1127698, 1119506, 1121554, 1117458, 1115410, 1349196, 1345100, 1348684, 1344588, 1350732, 1346636, 1351244, 1347148, 898120, 898632,
  1129746, 1390163, 1381971, 1389139, 1380947, 1156361, 1160457, 1156873, 1160969, 1162505, 1154313, 1152265, 1389651, 1381459, 1150217, 1148169, 1391699, 1383507, 1384019, 1379923, 1379411, 1392211, 1652372, 1644180, 1651348, 1643156, 1158409, 1418314, 1422410, 1418826, 1422922, 1195296, 1193248, 1187104, 1185056, 1420362, 1424458, 1424970, 1416778, 1416266,
  1651860, 1643668, 1183008, 1180960, 1653908, 1645716, 1412682, 1412170, 1654420, 1646228, 1653396, 1645204, 1191200, 1189152, 1420874, 1680523, 1684619, 1681035, 1685131, 1469537, 1453153, 1467489, 1451105, 1453665, 1457761, 1457249, 1682571, 1686667, 1449569, 1449057, 1683083, 1687179, 1686155, 1677963, 1678987, 1207584, 1205536, 1445473, 1444961, 1682059,
  1942604, 1946700, 1943116, 1947212, 1470049, 1731746, 1715362, 1729698, 1713314, 1486408, 1485896, 1490504, 1489992, 1732258, 1715874, 1714850, 1718946, 1719970, 1944652, 1948748, 1482312, 1481800, 1945164, 1949260, 1710754, 1711778, 1478216, 1477704, 1944140, 1948236, 1943628, 1947724, 1502792, 1502280, 1731234, 1993827, 1977443, 1991779, 1975395, 1769097,
  1765001, 1768585, 1764489, 1763977, 1747593, 1748617, 1994339, 1977955, 1751689, 1752713, 1993315, 1976931, 1976419, 1980515, 1981027, 1506888, 1506376, 1743497, 1744521, 1992803, 159012, 142628, 156964, 140580, 1768073, 2031178, 2027082, 2030666, 2026570, 1796752, 1797776, 1780368, 1781392, 2030154, 2026058, 2025546, 2009162, 2009674, 159524, 143140,
  1784464, 1785488, 158500, 142116, 2013258, 2013770, 1776272, 1777296, 157988, 141604, 155940, 139556, 1800848, 1801872, 2029642, 196363, 192267, 195851, 191755, 2054737, 2062929, 2055761, 2063953, 2062417, 2058321, 2058833, 195339, 191243, 2041937, 2042449, 194827, 190731, 188683, 172299, 174347, 1792656, 1793680, 2046033, 2046545, 192779,
  458316, 454220, 457804, 453708, 2054225, 219922, 228114, 220946, 229138, 2095176, 2095688, 2091080, 2091592, 219410, 227602, 225554, 221458, 223506, 457292, 453196, 2074696, 2075208, 456780, 452684, 205074, 207122, 2078792, 2079304, 454732, 450636, 455244, 451148, 2086984, 2087496, 217362, 481875, 490067, 482899, 491091, 248073,
  252169, 248585, 252681, 250121, 258313, 260361, 481363, 489555, 254217, 256265, 479315, 487507, 488019, 483923, 483411, 2082888, 2083400, 237833, 239881, 479827, 744084, 752276, 745108, 753300, 246025, 510026, 514122, 510538, 514634, 20768, 22816, 28960, 31008, 507978, 512074, 512586, 520778, 520266, 743572, 751764,
  24864, 26912, 741524, 749716, 516682, 516170, 8480, 10528, 742036, 750228, 743060, 751252, 16672, 18720, 508490, 772235, 776331, 772747, 776843, 262241, 278625, 264289, 280673, 279137, 283233, 282721, 770187, 774283, 291425, 290913, 770699, 774795, 775819, 784011, 782987, 288, 2336, 287329, 286817, 771723,
  1034316, 1038412, 1034828, 1038924, 262753, 524450, 540834, 526498, 542882, 311880, 311368, 315976, 315464, 524962, 541346, 542370, 546466, 545442, 1032268, 1036364, 324168, 323656, 1032780, 1036876, 554658, 553634, 320072, 319560, 1033804, 1037900, 1033292, 1037388, 525986, 786531, 802915, 788579, 804963, 575113, 574089, 787043,
  803427, 579209, 578185, 788067, 804451, 803939, 808035, 808547, 299592, 299080, 587401, 586377, 787555, 1048868, 1065252, 1050916, 1067300, 607888, 606864, 836682, 837194, 1049380, 1065764, 611984, 610960, 1050404, 1066788, 840778, 841290, 620176, 619152, 1049892, 1066276, 1051940, 1068324, 869457, 869969, 1101067, 1099019, 603792,
  602768, 873553, 874065, 902216, 902728, 1133842, 1131794, 906312, 906824, 894024, 894536, 1166601, 1164553, 1199392, 1197344]
def qfP (l : List (Nat × List Nat)) : List (ByteArray × List S46) := l.map (fun p => (decO p.1, p.2.map decY))
def qfO0 : List (Nat × List Nat) := [(1, [0])]
def qfO1 : List (Nat × List Nat) := [(214, [1121554, 1117458, 1115410]),
  (215, [1349196, 1345100]),
  (219, [1348684, 1344588]),
  (413, [1350732, 1346636]),
  (414, [1351244, 1347148]),
  (420, [898120, 898632]),
  (422, [1129746]),
  (423, [1390163, 1381971, 1389139, 1380947]),
  (425, [1156361, 1160457, 1156873, 1160969]),
  (426, [1162505, 1154313, 1152265]),
  (427, [1389651, 1381459])]
def qfO2 : List (Nat × List Nat) := [(1694, [1653396, 1645204]),
  (1700, [1191200, 1189152]),
  (1702, [1420874]),
  (1703, [1680523, 1684619, 1681035, 1685131]),
  (1705, [1469537, 1453153, 1467489, 1451105]),
  (1706, [1453665, 1457761, 1457249]),
  (1707, [1682571, 1686667]),
  (1708, [1449569, 1449057]),
  (1709, [1683083, 1687179]),
  (1710, [1686155, 1677963, 1678987]),
  (1713, [1207584, 1205536]),
  (1720, [1445473, 1444961])]
def qfO3 : List (Nat × List Nat) := [(6822, [1731234]),
  (6823, [1993827, 1977443, 1991779, 1975395]),
  (6825, [1769097, 1765001, 1768585, 1764489]),
  (6826, [1763977, 1747593, 1748617]),
  (6827, [1994339, 1977955]),
  (6828, [1751689, 1752713]),
  (6829, [1993315, 1976931]),
  (6830, [1976419, 1980515, 1981027]),
  (6833, [1506888, 1506376]),
  (6840, [1743497, 1744521])]
def qfO4 : List (Nat × List Nat) := [(27305, [2054737, 2062929, 2055761, 2063953]),
  (27306, [2062417, 2058321, 2058833]),
  (27307, [195339, 191243]),
  (27308, [2041937, 2042449]),
  (27309, [194827, 190731]),
  (27310, [188683, 172299, 174347]),
  (27313, [1792656, 1793680]),
  (27320, [2046033, 2046545]),
  (54606, [192779]),
  (54607, [458316, 454220, 457804, 453708])]
def qfO5 : List (Nat × List Nat) := [(109226, [250121, 258313, 260361]),
  (109227, [481363, 489555]),
  (109228, [254217, 256265]),
  (109229, [479315, 487507]),
  (109230, [488019, 483923, 483411]),
  (109233, [2082888, 2083400]),
  (109240, [237833, 239881]),
  (218446, [479827]),
  (218447, [744084, 752276, 745108, 753300]),
  (218450, [246025]),
  (218451, [510026, 514122, 510538, 514634])]
def qfO6 : List (Nat × List Nat) := [(436907, [770187, 774283]),
  (436908, [291425, 290913]),
  (436909, [770699, 774795]),
  (436910, [775819, 784011, 782987]),
  (436913, [288, 2336]),
  (436920, [287329, 286817]),
  (873806, [771723]),
  (873807, [1034316, 1038412, 1034828, 1038924]),
  (873810, [262753]),
  (873811, [524450, 540834, 526498, 542882]),
  (873812, [311880, 311368, 315976, 315464]),
  (873813, [524962, 541346])]
def qfO7 : List (Nat × List Nat) := [(1747640, [587401, 586377]),
  (3495246, [787555]),
  (3495247, [1048868, 1065252, 1050916, 1067300]),
  (3495252, [607888, 606864]),
  (3495254, [836682, 837194]),
  (3495255, [1049380, 1065764]),
  (3495256, [611984, 610960]),
  (3495259, [1050404, 1066788]),
  (3495260, [840778, 841290])]
def qfO8 : List (Nat × List Nat) := []
end Go.Proofs.YtdgohcdemnmieaaDoor.A
/- The program's search at the reflected queue of depth 4: some of its groups. No conditions. -/
namespace Go.Proofs.YtdgohcdemnmieaaDoor.A
open Go.RowKit Go.Proofs.YtdgohcdemnmieaaDoorW.PrintWords Go.Proofs.YtdgohcdemnmieaaDoorW.PrintLast Go.Proofs.YtdgohcdemnmieaaDoorW.PrintMore
set_option maxRecDepth 100000
set_option linter.unusedVariables false
theorem qf_piece0 (fin : List (ByteArray × List S46) → List S46 → Option (ByteArray × Bool)) : qfRowN 100000 4 1 37 fin (qfP qfO0) ((qfC.take 1).map decY) = fin (qfP qfO1) ((qfC.take 94).map decY) := by kernel_rfl
theorem qf_piece1 (fin : List (ByteArray × List S46) → List S46 → Option (ByteArray × Bool)) : qfRowN 100000 4 1 26 fin (qfP qfO1) ((qfC.take 94).map decY) = fin (qfP qfO2) ((qfC.take 159).map decY) := by kernel_rfl
theorem qf_piece2 (fin : List (ByteArray × List S46) → List S46 → Option (ByteArray × Bool)) : qfRowN 100000 4 1 27 fin (qfP qfO2) ((qfC.take 159).map decY) = fin (qfP qfO3) ((qfC.take 219).map decY) := by kernel_rfl
theorem qf_piece3 (fin : List (ByteArray × List S46) → List S46 → Option (ByteArray × Bool)) : qfRowN 100000 4 1 27 fin (qfP qfO3) ((qfC.take 219).map decY) = fin (qfP qfO4) ((qfC.take 284).map decY) := by kernel_rfl
end Go.Proofs.YtdgohcdemnmieaaDoor.A
/- The program's search at the reflected queue of depth 4: some of its groups. No conditions. -/
namespace Go.Proofs.YtdgohcdemnmieaaDoor.A
open Go.RowKit Go.Proofs.YtdgohcdemnmieaaDoorW.PrintWords Go.Proofs.YtdgohcdemnmieaaDoorW.PrintLast Go.Proofs.YtdgohcdemnmieaaDoorW.PrintMore
set_option maxRecDepth 100000
set_option linter.unusedVariables false
theorem qf_piece4 (fin : List (ByteArray × List S46) → List S46 → Option (ByteArray × Bool)) : qfRowN 100000 4 1 26 fin (qfP qfO4) ((qfC.take 284).map decY) = fin (qfP qfO5) ((qfC.take 349).map decY) := by kernel_rfl
theorem qf_piece5 (fin : List (ByteArray × List S46) → List S46 → Option (ByteArray × Bool)) : qfRowN 100000 4 1 26 fin (qfP qfO5) ((qfC.take 349).map decY) = fin (qfP qfO6) ((qfC.take 415).map decY) := by kernel_rfl
theorem qf_piece6 (fin : List (ByteArray × List S46) → List S46 → Option (ByteArray × Bool)) : qfRowN 100000 4 1 28 fin (qfP qfO6) ((qfC.take 415).map decY) = fin (qfP qfO7) ((qfC.take 469).map decY) := by kernel_rfl
theorem qf_piece7 (fin : List (ByteArray × List S46) → List S46 → Option (ByteArray × Bool)) : qfRowN 100000 4 1 22 fin (qfP qfO7) ((qfC.take 469).map decY) = fin (qfP qfO8) ((qfC.take 495).map decY) := by kernel_rfl
end Go.Proofs.YtdgohcdemnmieaaDoor.A
/- The program's search at the four queues. No conditions. -/
namespace Go.Proofs.YtdgohcdemnmieaaDoor.A
open Go.RowKit Go.Proofs.YtdgohcdemnmieaaDoorW.PrintWords Go.Proofs.YtdgohcdemnmieaaDoorW.PrintLast Go.Proofs.YtdgohcdemnmieaaDoorW.PrintMore
set_option maxRecDepth 100000
set_option linter.unusedVariables false
theorem qf20 : qfF 100000 2 0 = some (⟨#[115, 114, 115, 114, 114, 114]⟩, true) := by kernel_rfl
theorem qf40 : qfF 100000 4 0 = some (⟨#[115, 114, 115, 114, 114, 114]⟩, true) := by kernel_rfl
theorem qf21 : qfF 100000 2 1 = some (ByteArray.empty, false) := by kernel_rfl
theorem qf41 : qfF 100000 4 1 = some (ByteArray.empty, false) := by
  have h0 : [((ByteArray.empty, [z46]) : ByteArray × List S46)] = qfP qfO0 := by kernel_rfl
  have h1 : [z46] = (qfC.take 1).map decY := by kernel_rfl
  unfold qfF
  rw [h0, h1]
  rw [show qfRow 100000 4 1 100000 (qfP qfO0) ((qfC.take 1).map decY) = qfRowN 100000 4 1 37 (fun o s => qfRow 100000 4 1 99963 o s) (qfP qfO0) ((qfC.take 1).map decY) from qfRow_pieces 100000 4 1 99963 37 (qfP qfO0) ((qfC.take 1).map decY), qf_piece0]
  try dsimp only
  rw [show qfRow 100000 4 1 99963 (qfP qfO1) ((qfC.take 94).map decY) = qfRowN 100000 4 1 26 (fun o s => qfRow 100000 4 1 99937 o s) (qfP qfO1) ((qfC.take 94).map decY) from qfRow_pieces 100000 4 1 99937 26 (qfP qfO1) ((qfC.take 94).map decY), qf_piece1]
  try dsimp only
  rw [show qfRow 100000 4 1 99937 (qfP qfO2) ((qfC.take 159).map decY) = qfRowN 100000 4 1 27 (fun o s => qfRow 100000 4 1 99910 o s) (qfP qfO2) ((qfC.take 159).map decY) from qfRow_pieces 100000 4 1 99910 27 (qfP qfO2) ((qfC.take 159).map decY), qf_piece2]
  try dsimp only
  rw [show qfRow 100000 4 1 99910 (qfP qfO3) ((qfC.take 219).map decY) = qfRowN 100000 4 1 27 (fun o s => qfRow 100000 4 1 99883 o s) (qfP qfO3) ((qfC.take 219).map decY) from qfRow_pieces 100000 4 1 99883 27 (qfP qfO3) ((qfC.take 219).map decY), qf_piece3]
  try dsimp only
  rw [show qfRow 100000 4 1 99883 (qfP qfO4) ((qfC.take 284).map decY) = qfRowN 100000 4 1 26 (fun o s => qfRow 100000 4 1 99857 o s) (qfP qfO4) ((qfC.take 284).map decY) from qfRow_pieces 100000 4 1 99857 26 (qfP qfO4) ((qfC.take 284).map decY), qf_piece4]
  try dsimp only
  rw [show qfRow 100000 4 1 99857 (qfP qfO5) ((qfC.take 349).map decY) = qfRowN 100000 4 1 26 (fun o s => qfRow 100000 4 1 99831 o s) (qfP qfO5) ((qfC.take 349).map decY) from qfRow_pieces 100000 4 1 99831 26 (qfP qfO5) ((qfC.take 349).map decY), qf_piece5]
  try dsimp only
  rw [show qfRow 100000 4 1 99831 (qfP qfO6) ((qfC.take 415).map decY) = qfRowN 100000 4 1 28 (fun o s => qfRow 100000 4 1 99803 o s) (qfP qfO6) ((qfC.take 415).map decY) from qfRow_pieces 100000 4 1 99803 28 (qfP qfO6) ((qfC.take 415).map decY), qf_piece6]
  try dsimp only
  rw [show qfRow 100000 4 1 99803 (qfP qfO7) ((qfC.take 469).map decY) = qfRowN 100000 4 1 22 (fun o s => qfRow 100000 4 1 99781 o s) (qfP qfO7) ((qfC.take 469).map decY) from qfRow_pieces 100000 4 1 99781 22 (qfP qfO7) ((qfC.take 469).map decY), qf_piece7]
  try dsimp only
  rfl
end Go.Proofs.YtdgohcdemnmieaaDoor.A
/- The states of the program's queue that come with right copies, at four queues: each step leads to one of them. No conditions. -/
namespace Go.Proofs.YtdgohcdemnmieaaDoor.A
open Go.RowKit Go.Proofs.YtdgohcdemnmieaaDoorW.PrintWords Go.Proofs.YtdgohcdemnmieaaDoorW.PrintLast Go.Proofs.YtdgohcdemnmieaaDoorW.PrintMore
set_option maxRecDepth 100000
set_option linter.unusedVariables false
def stepOk (q : Nat) (T : List (Nat × Nat × Nat)) : Bool := T.all fun t => (T.any fun u => u.1 == t.2.1) && (T.any fun u => u.1 == t.2.2) && decide (t.1 % 8 ≤ q) && (t.2.1 % 8 == t.1 % 8 || t.2.1 % 8 + 1 == t.1 % 8) && (t.2.2 % 8 == t.1 % 8 || t.2.2 % 8 == t.1 % 8 + 1)
/-- Each step from one of the states leads to one of them. -/
def Turns (q : Nat) (q0 q1 : Int) (T : List (Nat × Nat × Nat)) : Prop := ∀ t ∈ T, (t.1 % 8 ≤ q) ∧ (∃ u ∈ T, stepF 100 q0 q1 (decY t.1) 114 = some (decY u.1) ∧ (u.1 % 8 = t.1 % 8 ∨ u.1 % 8 + 1 = t.1 % 8)) ∧ (∃ u ∈ T, stepF 100 q0 q1 (decY t.1) 115 = some (decY u.1) ∧ (u.1 % 8 = t.1 % 8 ∨ u.1 % 8 = t.1 % 8 + 1))
theorem map_at {α β : Type} {f g : α → β} : ∀ {l : List α}, l.map f = l.map g → ∀ x ∈ l, f x = g x
  | [], _, x, h => by simp at h
  | y :: l, h, x, hx => by
    simp only [List.map_cons, List.cons.injEq] at h
    rcases List.mem_cons.1 hx with rfl | hx
    · exact h.1
    · exact map_at h.2 x hx
theorem turns_of {q : Nat} {q0 q1 : Int} {T : List (Nat × Nat × Nat)} (hr : T.map (fun t => stepF 100 q0 q1 (decY t.1) 114) = T.map (fun t => some (decY t.2.1))) (hs : T.map (fun t => stepF 100 q0 q1 (decY t.1) 115) = T.map (fun t => some (decY t.2.2))) (ho : stepOk q T = true) : Turns q q0 q1 T := by
  intro t ht
  have h := List.all_eq_true.1 ho t ht
  simp only [Bool.and_eq_true, Bool.or_eq_true, beq_iff_eq] at h
  obtain ⟨⟨⟨⟨h1, h2⟩, h3⟩, h4⟩, h5⟩ := h
  obtain ⟨u, hu, e1⟩ := List.any_eq_true.1 h1
  obtain ⟨v, hv, e2⟩ := List.any_eq_true.1 h2
  have e1 := beq_iff_eq.1 e1
  have e2 := beq_iff_eq.1 e2
  exact ⟨of_decide_eq_true h3, ⟨u, hu, by rw [e1]; exact map_at hr t ht, by rw [e1]; exact h4⟩, ⟨v, hv, by rw [e2]; exact map_at hs t ht, by rw [e2]; exact h5⟩⟩

def rt20 : List (Nat × Nat × Nat) := [(0, 0, 262209), (262209, 262721, 524482), (262721, 295496, 524994), (524482, 525506, 524482), (295496, 295496, 561865), (524994, 558281, 524994), (525506, 558281, 525506), (561865, 562377, 823882),
  (558281, 591064, 562377), (562377, 595160, 824394), (823882, 824906, 823882), (591064, 591064, 599256), (595160, 595160, 861273), (824394, 857689, 824394), (824906, 857689, 824906), (599256, 599256, 861273),
  (861273, 861785, 74970), (857689, 890440, 861785), (861785, 894536, 75482), (74970, 73946, 74970), (890440, 890440, 898632), (894536, 894536, 112329), (75482, 106697, 75482), (73946, 106697, 73946),
  (898632, 898632, 112329), (112329, 110793, 374346), (106697, 8408, 110793), (110793, 12504, 372810), (374346, 373322, 374346), (8408, 8408, 216), (12504, 12504, 262233), (372810, 275033, 372810),
  (373322, 275033, 373322), (216, 216, 262233), (262233, 262745, 524506), (275033, 307784, 262745), (262745, 295496, 525018), (524506, 525530, 524506), (307784, 307784, 299592), (525018, 558281, 525018),
  (525530, 558281, 525530), (299592, 299592, 561865)]
theorem rt20_r : rt20.map (fun t => stepF 100 2 0 (decY t.1) 114) = rt20.map (fun t => some (decY t.2.1)) := by kernel_rfl
theorem rt20_s : rt20.map (fun t => stepF 100 2 0 (decY t.1) 115) = rt20.map (fun t => some (decY t.2.2)) := by kernel_rfl
theorem rt20_o : stepOk 2 rt20 = true := by kernel_rfl
theorem rt20_t : Turns 2 2 0 rt20 := turns_of rt20_r rt20_s rt20_o
def rt21 : List (Nat × Nat × Nat) := [(0, 0, 262209), (262209, 262721, 524418), (262721, 295496, 524930), (524418, 525954, 524418), (295496, 295496, 561801), (524930, 558729, 524930), (525954, 558729, 525954), (561801, 562825, 823882),
  (558729, 591504, 562825), (562825, 595600, 824906), (823882, 824394, 823882), (591504, 591504, 603792), (595600, 595600, 865873), (824906, 857169, 824906), (824394, 857169, 824394), (603792, 603792, 865873),
  (865873, 865361, 79506), (857169, 889928, 865361), (865361, 898120, 78994), (79506, 77970, 79506), (889928, 889928, 894024), (898120, 898120, 107657), (78994, 110729, 78994), (77970, 110729, 77970),
  (894024, 894024, 107657), (107657, 106633, 369738), (110729, 12432, 106633), (106633, 8336, 368714), (369738, 369226, 369738), (12432, 12432, 144), (8336, 8336, 262225), (368714, 270929, 368714),
  (369226, 270929, 369226), (144, 144, 262225), (262225, 262737, 524434), (270929, 303688, 262737), (262737, 295496, 524946), (524434, 525970, 524434), (303688, 303688, 299592), (524946, 558729, 524946),
  (525970, 558729, 525970), (299592, 299592, 561801)]
theorem rt21_r : rt21.map (fun t => stepF 100 2 1 (decY t.1) 114) = rt21.map (fun t => some (decY t.2.1)) := by kernel_rfl
theorem rt21_s : rt21.map (fun t => stepF 100 2 1 (decY t.1) 115) = rt21.map (fun t => some (decY t.2.2)) := by kernel_rfl
theorem rt21_o : stepOk 2 rt21 = true := by kernel_rfl
theorem rt21_t : Turns 2 2 1 rt21 := turns_of rt21_r rt21_s rt21_o
def rt40 : List (Nat × Nat × Nat) := [(0, 0, 262209), (262209, 262721, 524482), (262721, 295496, 524994), (524482, 525506, 786499), (295496, 295496, 561865), (524994, 558281, 787011), (525506, 558281, 787523), (786499, 788035, 1049028),
  (561865, 562377, 823882), (558281, 591064, 824394), (787011, 820810, 1049540), (787523, 820810, 1050052), (788035, 820810, 1050564), (1049028, 1051076, 1049028), (562377, 595160, 824394), (823882, 824906, 1086411),
  (591064, 591064, 861273), (824394, 857689, 1086923), (820810, 853593, 1087435), (1049540, 1083851, 1049540), (1050052, 1083851, 1050052), (1050564, 1083851, 1050564), (1051076, 1083851, 1051076), (595160, 595160, 861273),
  (824906, 857689, 1087435), (1086411, 1087947, 1348172), (861273, 861785, 1123802), (857689, 890440, 1124314), (1086923, 1120730, 1348684), (853593, 886344, 1124314), (1087435, 1120730, 1349196), (1083851, 1116634, 1087947),
  (1087947, 1120730, 1349708), (1348172, 1350220, 1348172), (861785, 894536, 1124314), (1123802, 1124826, 1385563), (890440, 890440, 1161161), (1124314, 1157577, 1386075), (1120730, 1153481, 1386587), (1348684, 1383003, 1348684),
  (886344, 886344, 1161161), (1349196, 1383003, 1349196), (1116634, 1149385, 1124826), (1349708, 1383003, 1349708), (1350220, 1383003, 1350220), (894536, 894536, 1161161), (1124826, 1157577, 1386587), (1385563, 1387099, 1647836),
  (1161161, 1161673, 1422922), (1157577, 1190392, 1423434), (1386075, 1419850, 1648348), (1153481, 1186296, 1423434), (1386587, 1419850, 1648860), (1383003, 1415754, 1387099), (1149385, 1182200, 1161673), (1387099, 1419850, 1649372),
  (1647836, 1649884, 1647836), (1161673, 1194488, 1423434), (1422922, 1423946, 1685195), (1190392, 1190392, 1460345), (1423434, 1456761, 1685707), (1419850, 1452665, 1686219), (1648348, 1682635, 1648348), (1186296, 1186296, 1460345),
  (1648860, 1682635, 1648860), (1415754, 1448569, 1423946), (1182200, 1182200, 1198584), (1649372, 1682635, 1649372), (1649884, 1682635, 1649884), (1194488, 1194488, 1460345), (1423946, 1456761, 1686219), (1685195, 1686731, 1947212),
  (1460345, 1460857, 1722618), (1456761, 1489480, 1723130), (1685707, 1719546, 1947724), (1452665, 1485384, 1723130), (1686219, 1719546, 1948236), (1682635, 1715450, 1686731), (1448569, 1481288, 1460857), (1198584, 1198584, 1460345),
  (1686731, 1719546, 1948748), (1947212, 1949260, 1947212), (1460857, 1493576, 1723130), (1722618, 1723642, 1984635), (1489480, 1489480, 1759945), (1723130, 1756361, 1985147), (1719546, 1752265, 1985659), (1947724, 1982075, 1947724),
  (1485384, 1485384, 1759945), (1948236, 1982075, 1948236), (1715450, 1748169, 1723642), (1481288, 1481288, 1497672), (1948748, 1982075, 1948748), (1949260, 1982075, 1949260), (1493576, 1493576, 1759945), (1723642, 1756361, 1985659),
  (1984635, 1986171, 150012), (1759945, 1760457, 2021962), (1756361, 1789144, 2022474), (1985147, 2018890, 150524), (1752265, 1785048, 2022474), (1985659, 2018890, 151036), (1982075, 2014794, 1986171), (1748169, 1780952, 1760457),
  (1497672, 1497672, 1759945), (1986171, 2018890, 151548), (150012, 147964, 150012), (1760457, 1793240, 2022474), (2021962, 2022986, 187339), (1789144, 1789144, 2059353), (2022474, 2055769, 187851), (2018890, 2051673, 188363),
  (150524, 180683, 150524), (1785048, 1785048, 2059353), (151036, 180683, 151036), (2014794, 2047577, 2022986), (1780952, 1780952, 1797336), (151548, 180683, 151548), (147964, 180683, 147964), (1793240, 1793240, 2059353),
  (2022986, 2055769, 188363), (187339, 184779, 449100), (2059353, 2059865, 224730), (2055769, 2088520, 225242), (187851, 217562, 449612), (2051673, 2084424, 225242), (188363, 217562, 450124), (180683, 213466, 184779),
  (2047577, 2080328, 2059865), (1797336, 1797336, 2059353), (184779, 217562, 446540), (449100, 447052, 449100), (2059865, 2092616, 225242), (224730, 221658, 486491), (2088520, 2088520, 262089), (225242, 254409, 487003),
  (217562, 250313, 483419), (449612, 479835, 449612), (2084424, 2084424, 262089), (450124, 479835, 450124), (213466, 246217, 221658), (2080328, 2080328, 2096712), (446540, 479835, 446540), (447052, 479835, 447052),
  (2092616, 2092616, 262089), (221658, 254409, 483419), (486491, 483931, 748764), (262089, 258505, 523850), (254409, 25080, 520266), (487003, 516682, 749276), (250313, 20984, 520266), (483419, 516682, 745692),
  (479835, 512586, 483931), (246217, 16888, 258505), (2096712, 2096712, 262089), (483931, 516682, 746204), (748764, 746716, 748764), (258505, 29176, 520266), (523850, 520778, 786123), (25080, 25080, 262265),
  (520266, 291449, 782539), (516682, 287353, 783051), (749276, 779467, 749276), (20984, 20984, 262265), (745692, 779467, 745692), (512586, 283257, 520778), (16888, 16888, 504), (746204, 779467, 746204),
  (746716, 779467, 746716), (29176, 29176, 262265), (520778, 291449, 783051), (786123, 783563, 1048140), (262265, 262777, 524538), (291449, 324168, 525050), (782539, 554234, 1044556), (287353, 320072, 525050),
  (783051, 554234, 1045068), (779467, 550138, 783563), (283257, 315976, 262777), (504, 504, 262265), (783563, 554234, 1045580), (1048140, 1046092, 1048140), (262777, 295496, 525050), (524538, 525562, 786555),
  (324168, 324168, 561865), (525050, 558281, 787067), (554234, 586953, 787579), (1044556, 816763, 1044556), (320072, 320072, 561865), (1045068, 816763, 1045068), (550138, 582857, 525562), (315976, 315976, 299592),
  (1045580, 816763, 1045580), (1046092, 816763, 1046092), (525562, 558281, 787579), (786555, 788091, 1049084), (787067, 820810, 1049596), (586953, 619736, 824394), (787579, 820810, 1050108), (816763, 849482, 788091),
  (582857, 615640, 562377), (299592, 299592, 561865), (788091, 820810, 1050620), (1049084, 1051132, 1049084), (1049596, 1083851, 1049596), (619736, 619736, 861273), (1050108, 1083851, 1050108), (849482, 882265, 824906),
  (615640, 615640, 599256), (1050620, 1083851, 1050620), (1051132, 1083851, 1051132), (882265, 915016, 861785), (599256, 599256, 861273), (915016, 915016, 898632), (898632, 898632, 1161161)]
theorem rt40_r : rt40.map (fun t => stepF 100 4 0 (decY t.1) 114) = rt40.map (fun t => some (decY t.2.1)) := by kernel_rfl
theorem rt40_s : rt40.map (fun t => stepF 100 4 0 (decY t.1) 115) = rt40.map (fun t => some (decY t.2.2)) := by kernel_rfl
theorem rt40_o : stepOk 4 rt40 = true := by kernel_rfl
theorem rt40_t : Turns 4 4 0 rt40 := turns_of rt40_r rt40_s rt40_o
def rt41 : List (Nat × Nat × Nat) := [(0, 0, 262209), (262209, 262721, 524418), (262721, 295496, 524930), (524418, 525954, 786499), (295496, 295496, 561801), (524930, 558729, 787011), (525954, 558729, 788035), (786499, 787523, 1048836),
  (561801, 562825, 823882), (558729, 591504, 824906), (787011, 820298, 1049348), (788035, 820298, 1050372), (787523, 820298, 1049860), (1048836, 1051908, 1048836), (562825, 595600, 824906), (823882, 824394, 1086219),
  (591504, 591504, 865873), (824906, 857169, 1087243), (820298, 853073, 1086731), (1049348, 1084683, 1049348), (1050372, 1084683, 1050372), (1049860, 1084683, 1049860), (1051908, 1084683, 1051908), (595600, 595600, 865873),
  (824394, 857169, 1086731), (1086219, 1088779, 1348172), (865873, 865361, 1128210), (857169, 889928, 1127698), (1087243, 1121554, 1349196), (853073, 885832, 1127698), (1086731, 1121554, 1348684), (1084683, 1117458, 1088779),
  (1088779, 1121554, 1350732), (1348172, 1351244, 1348172), (865361, 898120, 1127698), (1128210, 1129746, 1390163), (889928, 889928, 1156361), (1127698, 1162505, 1389651), (1121554, 1154313, 1391699), (1349196, 1384019, 1349196),
  (885832, 885832, 1156361), (1348684, 1384019, 1348684), (1117458, 1150217, 1129746), (1350732, 1384019, 1350732), (1351244, 1384019, 1351244), (898120, 898120, 1156361), (1129746, 1162505, 1391699), (1390163, 1392211, 1652372),
  (1156361, 1158409, 1418314), (1162505, 1195296, 1420362), (1389651, 1424970, 1651860), (1154313, 1187104, 1420362), (1391699, 1424970, 1653908), (1384019, 1416778, 1392211), (1150217, 1183008, 1158409), (1392211, 1424970, 1654420),
  (1652372, 1653396, 1652372), (1158409, 1191200, 1420362), (1418314, 1420874, 1680523), (1195296, 1195296, 1469537), (1420362, 1453665, 1682571), (1424970, 1457761, 1683083), (1651860, 1686155, 1651860), (1187104, 1187104, 1469537),
  (1653908, 1686155, 1653908), (1416778, 1449569, 1420874), (1183008, 1183008, 1207584), (1654420, 1686155, 1654420), (1653396, 1686155, 1653396), (1191200, 1191200, 1469537), (1420874, 1453665, 1683083), (1680523, 1682059, 1942604),
  (1469537, 1470049, 1731746), (1453665, 1486408, 1732258), (1682571, 1714850, 1944652), (1457761, 1490504, 1732258), (1683083, 1714850, 1945164), (1686155, 1718946, 1682059), (1449569, 1482312, 1470049), (1207584, 1207584, 1469537),
  (1682059, 1714850, 1944140), (1942604, 1943628, 1942604), (1470049, 1502792, 1732258), (1731746, 1731234, 1993827), (1486408, 1486408, 1769097), (1732258, 1763977, 1994339), (1714850, 1747593, 1993315), (1944652, 1976419, 1944652),
  (1490504, 1490504, 1769097), (1945164, 1976419, 1945164), (1718946, 1751689, 1731234), (1482312, 1482312, 1506888), (1944140, 1976419, 1944140), (1943628, 1976419, 1943628), (1502792, 1502792, 1769097), (1731234, 1763977, 1993315),
  (1993827, 1992803, 159012), (1769097, 1768073, 2031178), (1763977, 1796752, 2030154), (1994339, 2025546, 159524), (1747593, 1780368, 2030154), (1993315, 2025546, 158500), (1976419, 2009162, 1992803), (1751689, 1784464, 1768073),
  (1506888, 1506888, 1769097), (1992803, 2025546, 157988), (159012, 155940, 159012), (1768073, 1800848, 2030154), (2031178, 2029642, 196363), (1796752, 1796752, 2054737), (2030154, 2062417, 195339), (2025546, 2058321, 194827),
  (159524, 188683, 159524), (1780368, 1780368, 2054737), (158500, 188683, 158500), (2009162, 2041937, 2029642), (1784464, 1784464, 1792656), (157988, 188683, 157988), (155940, 188683, 155940), (1800848, 1800848, 2054737),
  (2029642, 2062417, 194827), (196363, 192779, 458316), (2054737, 2054225, 219922), (2062417, 2095176, 219410), (195339, 225554, 457292), (2058321, 2091080, 219410), (194827, 225554, 456780), (188683, 221458, 192779),
  (2041937, 2074696, 2054225), (1792656, 1792656, 2054737), (192779, 225554, 454732), (458316, 455244, 458316), (2054225, 2086984, 219410), (219922, 217362, 481875), (2095176, 2095176, 248073), (219410, 250121, 481363),
  (225554, 258313, 479315), (457292, 488019, 457292), (2091080, 2091080, 248073), (456780, 488019, 456780), (221458, 254217, 217362), (2074696, 2074696, 2082888), (454732, 488019, 454732), (455244, 488019, 455244),
  (2086984, 2086984, 248073), (217362, 250121, 479315), (481875, 479827, 744084), (248073, 246025, 510026), (250121, 20768, 507978), (481363, 512586, 743572), (258313, 28960, 507978), (479315, 512586, 741524),
  (488019, 520778, 479827), (254217, 24864, 246025), (2082888, 2082888, 248073), (479827, 512586, 742036), (744084, 743060, 744084), (246025, 16672, 507978), (510026, 508490, 772235), (20768, 20768, 262241),
  (507978, 279137, 770187), (512586, 283233, 770699), (743572, 775819, 743572), (28960, 28960, 262241), (741524, 775819, 741524), (520778, 291425, 508490), (24864, 24864, 288), (742036, 775819, 742036),
  (743060, 775819, 743060), (16672, 16672, 262241), (508490, 279137, 770699), (772235, 771723, 1034316), (262241, 262753, 524450), (279137, 311880, 524962), (770187, 542370, 1032268), (283233, 315976, 524962),
  (770699, 542370, 1032780), (775819, 546466, 771723), (291425, 324168, 262753), (288, 288, 262241), (771723, 542370, 1033804), (1034316, 1033292, 1034316), (262753, 295496, 524962), (524450, 525986, 786531),
  (311880, 311880, 561801), (524962, 558729, 787043), (542370, 575113, 788067), (1032268, 803939, 1032268), (315976, 315976, 561801), (1032780, 803939, 1032780), (546466, 579209, 525986), (324168, 324168, 299592),
  (1033804, 803939, 1033804), (1033292, 803939, 1033292), (525986, 558729, 788067), (786531, 787555, 1048868), (787043, 820298, 1049380), (575113, 607888, 824906), (788067, 820298, 1050404), (803939, 836682, 787555),
  (579209, 611984, 562825), (299592, 299592, 561801), (787555, 820298, 1049892), (1048868, 1051940, 1048868), (1049380, 1084683, 1049380), (607888, 607888, 865873), (1050404, 1084683, 1050404), (836682, 869457, 824394),
  (611984, 611984, 603792), (1049892, 1084683, 1049892), (1051940, 1084683, 1051940), (869457, 902216, 865361), (603792, 603792, 865873), (902216, 902216, 894024), (894024, 894024, 1156361)]
theorem rt41_r : rt41.map (fun t => stepF 100 4 1 (decY t.1) 114) = rt41.map (fun t => some (decY t.2.1)) := by kernel_rfl
theorem rt41_s : rt41.map (fun t => stepF 100 4 1 (decY t.1) 115) = rt41.map (fun t => some (decY t.2.2)) := by kernel_rfl
theorem rt41_o : stepOk 4 rt41 = true := by kernel_rfl
theorem rt41_t : Turns 4 4 1 rt41 := turns_of rt41_r rt41_s rt41_o
end Go.Proofs.YtdgohcdemnmieaaDoor.A
