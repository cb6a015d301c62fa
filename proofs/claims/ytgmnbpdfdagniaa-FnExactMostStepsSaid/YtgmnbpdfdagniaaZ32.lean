/- Texts of this claim, put together by this session's pack2.py: each part is introduced by its own comment. No conditions. -/
import Derived.Test.YtgmnbpdfdagniaaK11
import Derived.Test.YtgmnbpdfdagniaaQ2
import Derived.ChangeKeysEq
import Derived.Test.YtgmnbpdfdagniaaWEqStruct
import Derived.Maps.Own
import Derived.MapKept
import Derived.ChangeMaps5
import Derived.Deep.MidRow
import Derived.ArgAppend
import Derived.Lib.SlBytesConst
/- A map whose keys are the nodes of the program's link. No conditions. -/
namespace Go.Proofs.Ytgmnbpdfdagniaa.A
open Go.RowKit Go.Proofs.YtgmnbpdfdagniaaW.PrintWords Go.Proofs.YtgmnbpdfdagniaaW.PrintLast Go.Proofs.YtgmnbpdfdagniaaW.PrintMore
set_option linter.unusedVariables false
set_option linter.unusedSimpArgs false
def valN (x : LN) : Value := .agg #[.int .i64 x.sent, .int .i64 x.req, .int .i64 x.ans, .int .i64 x.plc, .bool x.ow, .int .i64 x.word, .int .i64 x.gone, .int .i64 x.s0, .int .i64 x.s1, .int .i64 x.r0, .int .i64 x.r1, .int .i64 x.taken, .int .u8 x.last, .int .i64 x.run]
def sameN (a b : LN) : Bool := (a.sent == b.sent) && (a.req == b.req) && (a.ans == b.ans) && (a.plc == b.plc) && (a.ow == b.ow) && (a.word == b.word) && (a.gone == b.gone) && (a.s0 == b.s0) && (a.s1 == b.s1) && (a.r0 == b.r0) && (a.r1 == b.r1) && (a.taken == b.taken) && (a.last == b.last) && (a.run == b.run)
theorem sameN_iff (a b : LN) : sameN a b = true ↔ a = b := by
  constructor
  · intro h
    unfold sameN at h
    simp only [Bool.and_eq_true, beq_iff_eq] at h
    cases a; cases b
    simp only at h
    simp only [LN.mk.injEq]
    simp only [h, and_self]
  · rintro rfl
    simp [sameN]
theorem eqI64 (d : Nat) (a b : Int) (w : World) : (Op.equalIn (d + 1) 2 (.int .i64 a) (.int .i64 b)).run Try.prog w = .ok (a == b) w := by
  simp [Op.equalIn, run_underlying Try.underlying2]
theorem eqU8 (d : Nat) (a b : Int) (w : World) : (Op.equalIn (d + 1) 5 (.int .u8 a) (.int .u8 b)).run Try.prog w = .ok (a == b) w := by
  simp [Op.equalIn, run_underlying Try.underlying5]
theorem eqBo (d : Nat) (a b : Bool) (w : World) : (Op.equalIn (d + 1) 4 (.bool a) (.bool b)).run Try.prog w = .ok (a == b) w := by
  simp [Op.equalIn, run_underlying Try.underlying4]
theorem eqRow (d : Nat) (a b a' b' : Int) (w : World) : (Op.equalIn (d + 2) 51 (.agg #[.int .i64 a, .int .i64 b]) (.agg #[.int .i64 a', .int .i64 b'])).run Try.prog w = .ok ((a == a') && (b == b')) w := by
  obtain ⟨i, hi, -⟩ := Option.map_eq_some_iff.1 infoInt
  have hc : Try.prog.cellsOf 2 = 1 := by kernel_rfl
  rw [run_equalIn_array (P := Try.prog) w (d + 1) _ _ Try.underlying51 hi, hc]
  have p1 : (part 2 #[.int .i64 a, .int .i64 b] (0 * 1)).run Try.prog w = .ok (.int .i64 a) w := by kernel_rfl
  have p2 : (part 2 #[.int .i64 a', .int .i64 b'] (0 * 1)).run Try.prog w = .ok (.int .i64 a') w := by kernel_rfl
  have p3 : (part 2 #[.int .i64 a, .int .i64 b] 1).run Try.prog w = .ok (.int .i64 b) w := by kernel_rfl
  have p4 : (part 2 #[.int .i64 a', .int .i64 b'] 1).run Try.prog w = .ok (.int .i64 b') w := by kernel_rfl
  rw [show List.range 2 = [0, 1] from rfl]
  simp only [Op.eqItems, Sem.run_bind, p1, p2, Result.andThen_ok, eqI64 d]
  cases h1 : (a == a') <;> cases h2 : (b == b') <;> simp [p3, p4, eqI64 d, h2]
def sameS (a b : LN) : Bool := (a.sent == b.sent) && ((a.req == b.req) && ((a.ans == b.ans) && ((a.plc == b.plc) && ((a.ow == b.ow) && ((a.word == b.word) && ((a.gone == b.gone) && (((a.s0 == b.s0) && (a.s1 == b.s1)) && ((a.r0 == b.r0) && (a.r1 == b.r1)))))))))
theorem equalS (a b : LN) (w : World) : (Op.equalIn 9999 53 (.agg #[.int .i64 a.sent, .int .i64 a.req, .int .i64 a.ans, .int .i64 a.plc, .bool a.ow, .int .i64 a.word, .int .i64 a.gone, .int .i64 a.s0, .int .i64 a.s1, .int .i64 a.r0, .int .i64 a.r1]) (.agg #[.int .i64 b.sent, .int .i64 b.req, .int .i64 b.ans, .int .i64 b.plc, .bool b.ow, .int .i64 b.word, .int .i64 b.gone, .int .i64 b.s0, .int .i64 b.s1, .int .i64 b.r0, .int .i64 b.r1])).run Try.prog w = .ok (sameS a b) w := by
  refine eqA_of (d := 9998) Try.underlying53 (by kernel_rfl) ?_
  refine eqf_cons rfl (a := .int .i64 a.sent) (b := .int .i64 b.sent) (by kernel_rfl) (by kernel_rfl) (eqI64 9997 _ _ w) ?_
  refine eqf_cons rfl (a := .int .i64 a.req) (b := .int .i64 b.req) (by kernel_rfl) (by kernel_rfl) (eqI64 9997 _ _ w) ?_
  refine eqf_cons rfl (a := .int .i64 a.ans) (b := .int .i64 b.ans) (by kernel_rfl) (by kernel_rfl) (eqI64 9997 _ _ w) ?_
  refine eqf_cons rfl (a := .int .i64 a.plc) (b := .int .i64 b.plc) (by kernel_rfl) (by kernel_rfl) (eqI64 9997 _ _ w) ?_
  refine eqf_cons rfl (a := .bool a.ow) (b := .bool b.ow) (by kernel_rfl) (by kernel_rfl) (eqBo 9997 _ _ w) ?_
  refine eqf_cons rfl (a := .int .i64 a.word) (b := .int .i64 b.word) (by kernel_rfl) (by kernel_rfl) (eqI64 9997 _ _ w) ?_
  refine eqf_cons rfl (a := .int .i64 a.gone) (b := .int .i64 b.gone) (by kernel_rfl) (by kernel_rfl) (eqI64 9997 _ _ w) ?_
  refine eqf_cons rfl (a := .agg #[.int .i64 a.s0, .int .i64 a.s1]) (b := .agg #[.int .i64 b.s0, .int .i64 b.s1]) (by kernel_rfl) (by kernel_rfl) (eqRow 9996 _ _ _ _ w) ?_
  exact eqf_last rfl (a := .agg #[.int .i64 a.r0, .int .i64 a.r1]) (b := .agg #[.int .i64 b.r0, .int .i64 b.r1]) (by kernel_rfl) (by kernel_rfl) (eqRow 9996 _ _ _ _ w)
theorem equalN (a b : LN) (w : World) : (Op.equal 55 (valN a) (valN b)).run Try.prog w = .ok (sameN a b) w := by
  have h : (Op.equalIn (9999 + 1) 55 (valN a) (valN b)).run Try.prog w = .ok (sameS a b && ((a.taken == b.taken) && ((a.last == b.last) && (a.run == b.run)))) w := by
    refine eqA_of (d := 9999) Try.underlying55 (by kernel_rfl) ?_
    refine eqf_cons rfl (a := .agg #[.int .i64 a.sent, .int .i64 a.req, .int .i64 a.ans, .int .i64 a.plc, .bool a.ow, .int .i64 a.word, .int .i64 a.gone, .int .i64 a.s0, .int .i64 a.s1, .int .i64 a.r0, .int .i64 a.r1]) (b := .agg #[.int .i64 b.sent, .int .i64 b.req, .int .i64 b.ans, .int .i64 b.plc, .bool b.ow, .int .i64 b.word, .int .i64 b.gone, .int .i64 b.s0, .int .i64 b.s1, .int .i64 b.r0, .int .i64 b.r1]) (by kernel_rfl) (by kernel_rfl) (equalS a b w) ?_
    refine eqf_cons rfl (a := .int .i64 a.taken) (b := .int .i64 b.taken) (by kernel_rfl) (by kernel_rfl) (eqI64 9998 _ _ w) ?_
    refine eqf_cons rfl (a := .int .u8 a.last) (b := .int .u8 b.last) (by kernel_rfl) (by kernel_rfl) (eqU8 9998 _ _ w) ?_
    exact eqf_last rfl (a := .int .i64 a.run) (b := .int .i64 b.run) (by kernel_rfl) (by kernel_rfl) (eqI64 9998 _ _ w)
  have e : (sameS a b && ((a.taken == b.taken) && ((a.last == b.last) && (a.run == b.run)))) = sameN a b := by
    unfold sameS sameN
    simp only [Bool.and_assoc]
  rw [← e]
  exact h
theorem checkN (em : Bool) (a : LN) (w : World) : (Instr.checkKey em 10000 55 (valN a)).run Try.prog w = .ok () w := by
  kernel_rfl
/-- The value that is kept behind a key. -/
def lookN {α : Type} : List (LN × α) → LN → Option α
  | [], _ => none
  | p :: ps, y => if sameN y p.1 = true then some p.2 else lookN ps y
def setN {α : Type} : List (LN × α) → LN → α → List (LN × α)
  | [], y, v => [(y, v)]
  | p :: ps, y, v => if sameN y p.1 = true then (p.1, v) :: ps else p :: setN ps y v
def EntN (es : List MapEntry) (ks : List (LN × Value)) : Prop := es.map (fun e => (e.key, e.val)) = ks.map (fun p => (valN p.1, p.2))
theorem findAskN (y : LN) (w : World) : ∀ (es : List MapEntry) (ks : List (LN × Value)) (i : Nat), EntN es ks → ∃ r, (Instr.findAsking 55 (valN y) es i).run Try.prog w = .ok r w ∧ r.map (·.2) = lookN ks y ∧
    (∀ j v, r = some (j, v) → ∃ d, j = i + d ∧ (es[d]?).map (·.key) = some (valN y) ∧ ∀ u (clk : MapEntry → MapEntry), (∀ e, (clk e).key = valN y ∧ (clk e).val = u) → EntN (es.modify d clk) (setN ks y u)) ∧ (r = none → ∀ u, setN ks y u = ks ++ [(y, u)])
  | [], [], i, h => ⟨none, rfl, rfl, (fun j v e => by cases e), fun _ u => rfl⟩
  | [], k :: ks, i, h => by simp [EntN] at h
  | e :: es, [], i, h => by simp [EntN] at h
  | e :: es, k :: ks, i, h => by
    unfold EntN at h
    simp only [List.map_cons, List.cons.injEq, Prod.mk.injEq] at h
    obtain ⟨⟨h1, h2⟩, h3⟩ := h
    have hq := equalN y k.1 w
    rw [← h1] at hq
    cases hs : sameN y k.1 with
    | true =>
      rw [hs] at hq
      have hyk := (sameN_iff y k.1).1 hs
      refine ⟨some (i, e.val), ?_, by simp [lookN, hs, h2], ?_, fun e => by cases e⟩
      · simp [Instr.findAsking, hq]
      · intro j v ejv
        cases ejv
        refine ⟨0, rfl, by simp [h1, hyk], fun u clk hclk => ?_⟩
        unfold EntN
        simp only [setN, hs, if_true, List.map_cons]
        simp only [List.modify_zero_cons, List.map_cons, (hclk e).1, (hclk e).2, h3, hyk]
    | false =>
      rw [hs] at hq
      obtain ⟨r, hr, hi, hp, hn⟩ := findAskN y w es ks (i + 1) h3
      refine ⟨r, ?_, by simp [lookN, hs, hi], ?_, ?_⟩
      · simp [Instr.findAsking, hq, hr]
      · intro j v ejv
        obtain ⟨d, e1, e2, e3⟩ := hp j v ejv
        refine ⟨d + 1, by omega, by simpa using e2, fun u clk hclk => ?_⟩
        have := e3 u clk hclk
        unfold EntN at this ⊢
        simp only [setN, hs, Bool.false_eq_true, if_false, List.modify_succ_cons, List.map_cons, this, h1, h2]
      · intro e u
        simp only [setN, hs, Bool.false_eq_true, if_false, hn e u, List.cons_append]
theorem findKeyN (y : LN) (w : World) (es : List MapEntry) (ks : List (LN × Value)) (h : EntN es ks) : ∃ r, (Instr.findKey 55 (valN y) es).run Try.prog w = .ok r w ∧ r.map (·.2) = lookN ks y ∧
    (∀ j v, r = some (j, v) → (es[j]?).map (·.key) = some (valN y) ∧ ∀ u (clk : MapEntry → MapEntry), (∀ e, (clk e).key = valN y ∧ (clk e).val = u) → EntN (es.modify j clk) (setN ks y u)) ∧ (r = none → ∀ u, setN ks y u = ks ++ [(y, u)]) := by
  cases es with
  | nil =>
    cases ks with
    | nil => exact ⟨none, by simp [Instr.findKey, Instr.findNow, run_underlying Try.underlying55], rfl, (fun j v e => by cases e), fun _ u => rfl⟩
    | cons k ks => simp [EntN] at h
  | cons e es =>
    obtain ⟨r, hr, hi, hp, hn⟩ := findAskN y w (e :: es) ks 0 h
    refine ⟨r, ?_, hi, ?_, hn⟩
    · simp [Instr.findKey, Instr.findNow, Instr.sameNow, run_underlying Try.underlying55, hr]
    · intro j v ejv
      obtain ⟨d, e1, e2, e3⟩ := hp j v ejv
      obtain rfl : j = d := by omega
      exact ⟨e2, e3⟩
/-- A map in memory that holds these values behind these nodes. -/
def MapN (w : World) (bm : Nat) (ks : List (LN × Value)) : Prop := ∃ es clock, w.heap[bm]? = some (.map es clock) ∧ EntN es.toList ks
theorem MapN.look {w : World} {bm : Nat} {ks : List (LN × Value)} (h : MapN w bm ks) (T E : TypeId) (hT : Try.prog.underlying T = some (.map 55 E)) (z : Value) (hz : (zeroValue E).run Try.prog w = .ok z w) (y : LN) :
    (Instr.lookup T (.map (some bm)) (valN y) false).run Try.prog w = .ok ((lookN ks y).getD z) w := by
  obtain ⟨es, clock, hb, he⟩ := h
  obtain ⟨r, hr, hi, hp, hn⟩ := findKeyN y w es.toList ks he
  rw [← hi]
  cases r with
  | none => simp [Instr.lookup, run_underlying hT, Go.MapKept.run_getObj_map hb, checkN, hr, hz]
  | some p => simp [Instr.lookup, run_underlying hT, Go.MapKept.run_getObj_map hb, checkN, hr]
theorem MapN.look2 {w : World} {bm : Nat} {ks : List (LN × Value)} (h : MapN w bm ks) (T E : TypeId) (hT : Try.prog.underlying T = some (.map 55 E)) (z : Value) (hz : (zeroValue E).run Try.prog w = .ok z w) (y : LN) :
    (Instr.lookup T (.map (some bm)) (valN y) true).run Try.prog w = .ok (.tuple #[(lookN ks y).getD z, .bool (lookN ks y).isSome]) w := by
  obtain ⟨es, clock, hb, he⟩ := h
  obtain ⟨r, hr, hi, hp, hn⟩ := findKeyN y w es.toList ks he
  rw [← hi]
  cases r with
  | none => simp [Instr.lookup, run_underlying hT, Go.MapKept.run_getObj_map hb, checkN, hr, hz]
  | some p => simp [Instr.lookup, run_underlying hT, Go.MapKept.run_getObj_map hb, checkN, hr]
theorem sameBitsN (y : LN) : Instr.sameBits 10000 (valN y) (valN y) = true := by
  simp [valN, Instr.sameBits]
theorem MapN.upd {w : World} {bm : Nat} {ks : List (LN × Value)} (h : MapN w bm ks) (T E : TypeId) (hT : Try.prog.underlying T = some (.map 55 E)) (y : LN) (u : Value) :
    ∃ w', (Instr.mapUpdate T (.map (some bm)) (valN y) u).run Try.prog w = .ok () w' ∧ MapN w' bm (setN ks y u) ∧ KS (fun i => i = bm) w w' ∧ w'.heap.size = w.heap.size := by
  obtain ⟨es, clock, hb, he⟩ := h
  obtain ⟨r, hr, hi, hp, hn⟩ := findKeyN y w es.toList ks he
  cases r with
  | none =>
    refine ⟨Go.ChangeMaps.setBlock w bm (.map (es.push { key := valN y, val := u, born := clock }) (clock + 1)), ?_, ⟨_, _, Go.ChangeMaps.heap_setBlock_same hb _, ?_⟩, ⟨rfl, rfl, rfl, by simp [Go.ChangeMaps.setBlock], fun i hi' hne => Go.ChangeMaps.heap_setBlock_other hb _ hne⟩, by simp [Go.ChangeMaps.setBlock]⟩
    · simp [Instr.mapUpdate, run_underlying hT, Go.MapKept.run_getObj_map hb, checkN, hr, Go.MapKept.run_setObj_map _ hb]; rfl
    · rw [hn rfl u]
      unfold EntN at he ⊢
      rw [Array.toList_push, List.map_append, he, List.map_append]
      rfl
  | some p =>
    obtain ⟨j, v⟩ := p
    obtain ⟨e2, e3⟩ := hp j v rfl
    refine ⟨Go.ChangeMaps.setBlock w bm (.map (es.modify j fun e => { e with key := valN y, val := u }) clock), ?_, ⟨_, _, Go.ChangeMaps.heap_setBlock_same hb _, ?_⟩, ⟨rfl, rfl, rfl, by simp [Go.ChangeMaps.setBlock], fun i hi' hne => Go.ChangeMaps.heap_setBlock_other hb _ hne⟩, by simp [Go.ChangeMaps.setBlock]⟩
    · have e4 : ((es[j]?).map (·.key)).getD (valN y) = valN y := by
        rw [← Array.getElem?_toList, e2]; rfl
      simp [Instr.mapUpdate, run_underlying hT, Go.MapKept.run_getObj_map hb, checkN, hr, Instr.keyThatStays, e4, sameBitsN, Go.MapKept.run_setObj_map _ hb]; rfl
    · rw [Array.toList_modify]
      exact e3 u _ (fun e => ⟨rfl, rfl⟩)
theorem MapN.below {w w' : World} {bm B : Nat} {ks : List (LN × Value)} (h : MapN w bm ks) (hb : Below w.heap.size w w') : MapN w' bm ks := by
  obtain ⟨es, clock, hb', he⟩ := h
  exact ⟨es, clock, blk_below hb' hb, he⟩
theorem MapN.ks {w w' : World} {bm : Nat} {ks : List (LN × Value)} {S : Nat → Prop} (h : MapN w bm ks) (hk : KS S w w') (hS : ¬ S bm) : MapN w' bm ks := by
  obtain ⟨es, clock, hb', he⟩ := h
  exact ⟨es, clock, hk.keep hb' hS, he⟩
end Go.Proofs.Ytgmnbpdfdagniaa.A
/- A queue of a link's nodes: a slice that is cut at its head and appended to; and the search that goes over it. No conditions. -/
namespace Go.Proofs.Ytgmnbpdfdagniaa.A
open Go.RowKit Go.Proofs.YtgmnbpdfdagniaaW.PrintWords Go.Proofs.YtgmnbpdfdagniaaW.PrintLast Go.Proofs.YtgmnbpdfdagniaaW.PrintMore
set_option linter.unusedVariables false
set_option linter.unusedSimpArgs false
def cellsN (x : LN) : List Value := [.int .i64 x.sent, .int .i64 x.req, .int .i64 x.ans, .int .i64 x.plc, .bool x.ow, .int .i64 x.word, .int .i64 x.gone, .int .i64 x.s0, .int .i64 x.s1, .int .i64 x.r0, .int .i64 x.r1, .int .i64 x.taken, .int .u8 x.last, .int .i64 x.run]
theorem cellsN_len (x : LN) : (cellsN x).length = 14 := rfl
theorem valN_cells (x : LN) : Value.agg (cellsN x).toArray = valN x := rfl
theorem flat_len : ∀ (xs : List LN), (xs.flatMap cellsN).length = xs.length * 14
  | [] => rfl
  | x :: xs => by rw [List.flatMap_cons, List.length_append, flat_len xs, cellsN_len, List.length_cons]; omega
/-- A slice of nodes, anywhere in a block of the call's own. -/
def OpenN (w : World) (B : Nat) (v : Value) (xs : List LN) : Prop :=
  ∃ b off cap cur, v = .slice (some ⟨b, off, none⟩) xs.length cap ∧ B ≤ b ∧ w.heap[b]? = some (.cells cur 55 (0, 0)) ∧ xs.length ≤ cap ∧ cap ≤ maxLen ∧ off + cap * 14 ≤ cur.size ∧ (cur.toList.drop off).take (xs.length * 14) = xs.flatMap cellsN
theorem OpenN.keep {w w' : World} {B : Nat} {v : Value} {xs : List LN} {S : Nat → Prop} (h : OpenN w B v xs) (k : KS S w w') (hS : ∀ i, v.ownBlock = some i → ¬ S i) : OpenN w' B v xs := by
  obtain ⟨b, off, cap, cur, rfl, h1, h2, h3⟩ := h
  exact ⟨b, off, cap, cur, rfl, h1, k.keep h2 (hS b rfl), h3⟩
theorem OpenN.below {w w' : World} {B : Nat} {v : Value} {xs : List LN} (h : OpenN w B v xs) (k : Below w.heap.size w w') : OpenN w' B v xs := by
  obtain ⟨b, off, cap, cur, rfl, h1, h2, h3⟩ := h
  exact ⟨b, off, cap, cur, rfl, h1, blk_below h2 k, h3⟩
theorem OpenN.lt {w : World} {B : Nat} {v : Value} {xs : List LN} (h : OpenN w B v xs) : ∀ k, v.ownBlock = some k → k < w.heap.size ∧ B ≤ k ∧ ∃ cur, w.heap[k]? = some (.cells cur 55 (0, 0)) := by
  obtain ⟨b, off, cap, cur, rfl, h1, h2, h3⟩ := h
  intro k hk
  cases hk
  exact ⟨blk_lt h2, h1, cur, h2⟩
theorem OpenN.cell {w : World} {B : Nat} {b off cap : Nat} {xs : List LN} (h : OpenN w B (.slice (some ⟨b, off, none⟩) xs.length cap) xs) (j : Nat) (u : Value) (hu : (xs.flatMap cellsN)[j]? = some u) : w.cell? ⟨b, off + j, none⟩ = some u := by
  obtain ⟨b, off, cap, cur, hv, h1, h2, h3, h4, h5, h7⟩ := h
  injection hv with e1 e2 e3
  injection e1 with e1
  injection e1 with e4 e5
  subst e4; subst e5; subst e3
  rw [blk_cell h2]
  have hj : j < xs.length * 14 := by rw [← flat_len]; exact (List.getElem?_eq_some_iff.1 hu).1
  rw [← h7, List.getElem?_take, if_pos hj, List.getElem?_drop] at hu
  simpa using hu
/-- The head's cells. -/
theorem OpenN.head {w : World} {B : Nat} {b off cap : Nat} {x : LN} {xs : List LN} (h : OpenN w B (.slice (some ⟨b, off, none⟩) (xs.length + 1) cap) (x :: xs)) : w.rangeAt b off (cellsN x) := by
  intro j v hv
  refine OpenN.cell (xs := x :: xs) h j v ?_
  rw [List.flatMap_cons, List.getElem?_append_left (List.getElem?_eq_some_iff.1 hv).1]
  exact hv
theorem drop_cells (x : LN) (ys : List Value) : List.drop 14 (cellsN x ++ ys) = ys := rfl
/-- The rest behind the head. -/
theorem OpenN.tail {w : World} {B b off cap : Nat} {x : LN} {xs : List LN} (h : OpenN w B (.slice (some ⟨b, off, none⟩) (xs.length + 1) cap) (x :: xs)) (A : Addr) (hA : A = ⟨b, off, none⟩ ∧ cap = 1 ∨ A = ⟨b, off + 14, none⟩) : OpenN w B (.slice (some A) xs.length (cap - 1)) xs := by
  obtain ⟨b, off, cap, cur, hv, h1, h2, h3, h4, h5, h7⟩ := h
  injection hv with e1 e2 e3
  injection e1 with e1
  injection e1 with e4 e5
  subst e4; subst e5; subst e3
  rw [List.length_cons] at h3 h7
  have ht : (cur.toList.drop (off + 14)).take (xs.length * 14) = xs.flatMap cellsN := by
    have h8 := congrArg (List.drop 14) h7
    rw [List.drop_take, List.drop_drop] at h8
    rw [show (xs.length + 1) * 14 - 14 = xs.length * 14 by omega, List.flatMap_cons, drop_cells] at h8
    exact h8
  rcases hA with ⟨rfl, hc⟩ | rfl
  · subst hc
    have hx : xs = [] := by cases xs with | nil => rfl | cons => simp at h3
    subst hx
    exact ⟨_, _, _, _, rfl, h1, h2, by simp, by omega, by omega, by simp⟩
  · exact ⟨_, _, _, _, rfl, h1, h2, by omega, by omega, by omega, ht⟩
theorem infoN : (Try.prog.info? 55).map (fun i => (i.zero, i.size, i.bytes)) = some (some (.agg #[.int .i64 0, .int .i64 0, .int .i64 0, .int .i64 0, .bool false, .int .i64 0, .int .i64 0, .int .i64 0, .int .i64 0, .int .i64 0, .int .i64 0, .int .i64 0, .int .u8 0, .int .i64 0]), 14, 112) := by kernel_rfl
section
variable {P : Program} {ops : Array Oper} {rest : List Oper} {o : Oper} {a : Act} {Q : Exit → Act → World → Prop}
theorem setCells_ks {g : Nat} {S : Nat → Prop} (hS : S g) : ∀ (vs : List Value) (o : Nat) {a w : World}, KS S a w → KS S a (w.setCells g o vs)
  | [], _, _, _, h => h
  | v :: r, o, a, w, h => by
    rw [World.setCells]
    exact setCells_ks hS r (o + 1) (KS.set h g o v (fun _ => hS))
theorem take_mid (L C R : List Value) (off n m : Nat) (h : off + n ≤ L.length) (hm : C.length = m) : ((L.take (off + n) ++ C ++ R).drop off).take (n + m) = (L.drop off).take n ++ C := by
  rw [List.append_assoc, List.drop_append_of_le_length (by rw [List.length_take]; omega), List.drop_take, show off + n - off = n by omega]
  have hA : ((L.drop off).take n).length = n := by rw [List.length_take, List.length_drop]; omega
  generalize (L.drop off).take n = A at hA
  rw [List.take_append, List.take_of_length_le (by omega), hA, show n + m - n = m by omega, List.take_append_of_le_length (by omega), List.take_of_length_le (by omega)]
/-- One node is appended. -/
theorem openN_append {W : World} (B : Nat) (hgd : o.guard = none) (s x : Operand) (t : TypeId)
    (ho : o.op = .call { callee := .builtin .append, args := #[s, x], argTypes := #[t, t] })
    (ht : Try.prog.underlying t = some (.slice 55))
    (v : Value) (xs : List LN) (y : LN) (hs : a.eval s = v) (hx : a.eval x = .slice (some ⟨W.heap.size, 0, none⟩) 1 1)
    (HO : OpenN W B v xs) (hbase : B ≤ W.heap.size) (hl : (xs.length + 1) * 112 ≤ 140737488355328)
    (h : ∀ v1 w1, OpenN w1 B v1 (xs ++ [y]) → KS (fun i => v.ownBlock = some i) W w1 → wpList Try.prog ops Q rest (a.put o.dst v1) w1) :
    wpList Try.prog ops Q (o :: rest) a (W.alloc (.cells (cellsN y).toArray 55)) := by
  obtain ⟨b, off, cap, cur, rfl, hB, hh, hn, hc, hsz, htake⟩ := HO
  obtain ⟨i0, hi, hzz⟩ := Option.map_eq_some_iff.1 infoN
  simp only [Prod.mk.injEq] at hzz
  obtain ⟨hz0, hz1, hz2⟩ := hzz
  have hlen := flat_len xs
  have hh' := blk_alloc hh (.cells (cellsN y).toArray 55)
  have hnw := blk_new W (.cells (cellsN y).toArray 55)
  refine wpList_append_arg (W.alloc (.cells (cellsN y).toArray 55)) hgd s x t ho 55 i0 _ 14 112 ht hi hz0 hz1 hz2 rfl (by omega) b off xs.length cap (xs.flatMap cellsN) hs hlen ?c0 ⟨W.heap.size, 0, none⟩ 1 1 (cellsN y) hx rfl ?c1 ?c2 ?sp (by simp only [maxLen]; omega) hl ?room ?grow
  case c0 =>
    intro j u hu
    have hj : j < xs.length * 14 := by rw [← hlen]; exact (List.getElem?_eq_some_iff.1 hu).1
    rw [blk_cell hh']
    rw [← htake, List.getElem?_take, if_pos hj, List.getElem?_drop] at hu
    simpa using hu
  case c1 =>
    intro j u hu
    rw [Addr.add_mid, blk_cell hnw]
    simpa using hu
  case c2 =>
    intro u hu
    simp only [cellsN, List.mem_cons, List.not_mem_nil, or_false] at hu
    rcases hu with rfl | rfl | rfl | rfl | rfl | rfl | rfl | rfl | rfl | rfl | rfl | rfl | rfl | rfl <;> rfl
  case sp =>
    intro hr j hj
    refine ⟨?_, blk_frozen hh' _⟩
    rw [blk_cell hh']
    have hj2 : j < 14 := hj
    have : off + xs.length * 14 + j < cur.size := by omega
    simp [this]
  case room =>
    intro hr
    obtain ⟨cur', e1, e2, e3⟩ := setCells_row (cellsN y) (off + xs.length * 14) (W.alloc (.cells (cellsN y).toArray 55)) cur hh' (by rw [cellsN_len]; omega)
    have hk := setCells_ks (S := fun i => (Value.slice (some ⟨b, off, none⟩) xs.length cap).ownBlock = some i) (g := b) rfl (cellsN y) (off + xs.length * 14) (KS.alloc (KS.refl _ W) (.cells (cellsN y).toArray 55))
    refine h _ _ ⟨b, off, cap, cur', by rw [List.length_append]; rfl, hB, e1, by simpa using hr, hc, by omega, ?_⟩ hk
    have hl1 : (xs ++ [y]).length = xs.length + 1 := by rw [List.length_append]; rfl
    have hf1 : (xs ++ [y]).flatMap cellsN = xs.flatMap cellsN ++ cellsN y := by rw [List.flatMap_append, List.flatMap_cons, List.flatMap_nil, List.append_nil]
    rw [e3, hl1, hf1, ← htake, show (xs.length + 1) * 14 = xs.length * 14 + 14 by omega]
    exact take_mid _ _ _ off (xs.length * 14) 14 (by have := Array.length_toList (xs := cur); omega) (cellsN_len y)
  case grow =>
    intro hr v' w' hown hg
    obtain ⟨hlo, hv⟩ := hown
    rcases hv with ⟨_, hv⟩ | ⟨g, cap', cur', rfl, hg1, hg2, hg3, hg4, hg5, hg6⟩
    · omega
    have hsz2 : W.heap.size ≤ g := by rw [World.size_alloc] at hg1; omega
    have hl1 : (xs ++ [y]).length = xs.length + 1 := by rw [List.length_append]; rfl
    have hf1 : (xs ++ [y]).flatMap cellsN = xs.flatMap cellsN ++ cellsN y := by rw [List.flatMap_append, List.flatMap_cons, List.flatMap_nil, List.append_nil]
    have hg6' : cur'.toList.take ((xs.length + 1) * 14) = xs.flatMap cellsN ++ cellsN y := hg6
    refine h _ _ ⟨g, 0, cap', cur', by rw [hl1], by omega, hg2, by rw [hl1]; exact hg3, hg4, by omega, ?_⟩ ?_
    · rw [hl1, hf1, List.drop_zero]
      exact hg6'
    · exact (KS.alloc (KS.refl _ W) _).below (Below.grown (Below.refl _ _) hg (Nat.le_refl _) (fun k e => by cases e))
end
theorem lookN_map {α β : Type} (f : α → β) : ∀ (M : List (LN × α)) (y : LN), lookN (M.map (fun p => (p.1, f p.2))) y = (lookN M y).map f
  | [], y => rfl
  | p :: M, y => by
    simp only [List.map_cons, lookN]
    split
    · rfl
    · exact lookN_map f M y
theorem setN_map {α β : Type} (f : α → β) : ∀ (M : List (LN × α)) (y : LN) (v : α), setN (M.map (fun p => (p.1, f p.2))) y (f v) = (setN M y v).map (fun p => (p.1, f p.2))
  | [], y, v => rfl
  | p :: M, y, v => by
    simp only [List.map_cons, setN]
    split
    · rfl
    · rw [setN_map f M y v]; rfl
def zN : LN := ⟨0, 0, 0, -1, false, 0, 0, 0, 0, 0, 0, 0, 0, 0⟩
def oneB (L : Int) : ByteArray := ⟨#[UInt8.ofNat L.toNat]⟩
theorem convR (W : World) : (convert 21 9 (.int .i32 114)).run Try.prog W = .ok (.string (oneB 114)) W := by kernel_rfl
theorem convS (W : World) : (convert 21 9 (.int .i32 115)).run Try.prog W = .ok (.string (oneB 115)) W := by kernel_rfl
abbrev MapO := List (LN × ByteArray)
/-- The program's search over a link's nodes. -/
def foLet (l : Lnk) (ratio : Int) (hold : LN → Bool → Bool) (h : LN) (next : List LN → MapO → Option (ByteArray × Bool)) : List Int → List LN → MapO → Option (ByteArray × Bool)
  | [], X, M => next X M
  | L :: Ls, X, M =>
    (afterN l L ratio h).bind fun p =>
    if p.2.2 = true then
      if ((lookN M h).getD ByteArray.empty ++ oneB L).size ≤ 9223372036854775807 ∧ X.length < 1099511627776 then
        if hold p.1 p.2.1 = true then some ((lookN M h).getD ByteArray.empty ++ oneB L, true)
        else if (lookN M p.1).isSome = false ∧ p.2.1 = true then foLet l ratio hold h next Ls (X ++ [p.1]) (setN M p.1 ((lookN M h).getD ByteArray.empty ++ oneB L))
        else foLet l ratio hold h next Ls X M
      else none
    else foLet l ratio hold h next Ls X M
def foRow (l : Lnk) (ratio : Int) (hold : LN → Bool → Bool) : Nat → List LN → MapO → Option (ByteArray × Bool)
  | 0, _, _ => none
  | n + 1, [], M => some (ByteArray.empty, false)
  | n + 1, h :: X, M => foLet l ratio hold h (fun X M => foRow l ratio hold n X M) [114, 115] X M
def foF (K : Nat) (l : Lnk) (ratio : Int) (hold : LN → Bool → Bool) : Option (ByteArray × Bool) :=
  if hold zN true = true then some (ByteArray.empty, true) else foRow l ratio hold K [zN] [(zN, ByteArray.empty)]
/-- What there is in memory while it searches. -/
structure FI (w : World) (gl bm : Nat) (l : Lnk) (X : List LN) (M : MapO) (wr : World) (v : Value) : Prop where
  opn : OpenN wr w.heap.size v X
  map : MapN wr bm (M.map (fun p => (p.1, .string p.2)))
  lb : wr.heap[gl]? = some (boxL l)
  bel : Below w.heap.size w wr
theorem FI.below {w : World} {gl bm : Nat} {l : Lnk} {X : List LN} {M : MapO} {wr w' : World} {v : Value} (h : FI w gl bm l X M wr v) (k : Below wr.heap.size wr w') : FI w gl bm l X M w' v :=
  ⟨h.opn.below k, h.map.below (B := 0) k, blk_below h.lb k, below_step h.bel k⟩
theorem MapN.ne {w : World} {bm g t : Nat} {ks : List (LN × Value)} {cs : Array Value} {fr : Nat × Nat} (h : MapN w bm ks) (hg : w.heap[g]? = some (.cells cs t fr)) : g ≠ bm := by
  intro e
  subst e
  obtain ⟨es, clock, hb, _⟩ := h
  rw [hb] at hg
  cases hg
theorem FI.told {w : World} {gl bm : Nat} {l : Lnk} {X : List LN} {M M' : MapO} {wr w' : World} {v : Value} (h : FI w gl bm l X M wr v) (k : KS (fun i => i = bm) wr w') (hm : MapN w' bm (M'.map (fun p => (p.1, .string p.2)))) (hge : w.heap.size ≤ bm) : FI w gl bm l X M' w' v :=
  ⟨h.opn.keep k (fun i hi => by obtain ⟨_, _, cur, hc⟩ := h.opn.lt i hi; exact h.map.ne hc), hm, k.keep h.lb (h.map.ne h.lb), k.low h.bel (fun i e => by omega)⟩
theorem FI.push {w : World} {gl bm : Nat} {l : Lnk} {X X' : List LN} {M : MapO} {wr w1 : World} {v v1 : Value} (h : FI w gl bm l X M wr v) (ho : OpenN w1 w.heap.size v1 X') (k : KS (fun i => v.ownBlock = some i) wr w1) : FI w gl bm l X' M w1 v1 :=
  ⟨ho, h.map.ks k (fun e => by obtain ⟨_, _, c, hc⟩ := h.opn.lt bm e; exact h.map.ne hc rfl), k.keep h.lb (fun e => by obtain ⟨_, _, c, hc⟩ := h.opn.lt gl e; rw [h.lb] at hc; cases hc), k.low h.bel (fun i e => (h.opn.lt i e).2.1)⟩
end Go.Proofs.Ytgmnbpdfdagniaa.A
