/- slices.Repeat at one fraction and at most sixteen copies. No conditions. -/
import Derived.Test.YtenlaanknlafdaaRats8
import Derived.Test.YtenlaanknlafdaaA94
import Derived.Laws.CopyOwn
import Derived.Laws.MakeOwn
import Derived.Deep.RegionLaw
namespace Go.Proofs.Ytenlaanknlafdaa.A
open Go.RowKit Go.Proofs.YtenlaanknlafdaaW.PrintWords Go.Proofs.YtenlaanknlafdaaW.PrintLast Go.Proofs.YtenlaanknlafdaaW.PrintMore
set_option linter.unusedVariables false
set_option linter.unusedSimpArgs false
/-- copy between rows of elements of z cells. -/
theorem run_copy_rowz {P : Program} (w : World) (dT sT ty elem : TypeId) (g o dLen dCap : Nat) (a : Addr) (sLen sCap : Nat) (cur : Array Value) (t : TypeId) (cs : List Value) (z : Nat)
    (hu : P.underlying dT = some (.slice elem)) (hs : (P.info? elem).map (·.size) = some z)
    (hg : w.heap[g]? = some (.cells cur t (0, 0))) (m : Nat) (hm : Nat.min sLen dLen = m) (hn : cs.length = m * z)
    (hsrc : ∀ j v, cs[j]? = some v → w.cell? (a.add j) = some v) (hfit : o + cs.length ≤ cur.size) (h1 : ∀ v ∈ cs, v.oneCell' = true) :
    (Builtin.copy_ #[dT, sT] ty #[.slice (some ⟨g, o, none⟩) dLen dCap, .slice (some a) sLen sCap]).run P w =
      .ok (goInt m) (w.setRow g (cur.toList.take o ++ (cs ++ cur.toList.drop (o + cs.length))).toArray) := by
  subst hm
  have hl := run_loadCells_list (P := P) w a cs hsrc
  have hst := run_storeCells_at P g o t cs 0 cur w hg (by simpa using hfit) h1
  cases hq : P.info? elem with
  | none => simp [hq] at hs
  | some i =>
    have hi : i.size = z := by simpa [hq] using hs
    rw [hn] at hl
    simp [Builtin.copy_, run_underlying hu, Builtin.lenOf, Builtin.firstCells, sizeOf, typeInfo, hq, hi, hl, hst]
theorem wpList_copy_rowz {P : Program} {w : World} {ops : Array Oper} {rest : List Oper} {o : Oper} {a : Act} {Q : Exit → Act → World → Prop} (hgd : o.guard = none) (d s : Operand) (dT sT : TypeId)
    (ho : o.op = .call { callee := .builtin .copy, args := #[d, s], argTypes := #[dT, sT] }) (elem : TypeId) (z : Nat) (hu : P.underlying dT = some (.slice elem)) (hsz : (P.info? elem).map (·.size) = some z)
    (g off dLen dCap : Nat) (ad : Addr) (sLen sCap : Nat) (hd : a.eval d = .slice (some ⟨g, off, none⟩) dLen dCap) (hs : a.eval s = .slice (some ad) sLen sCap)
    (cur : List Value) (t : TypeId) (hg : w.heap[g]? = some (.cells cur.toArray t (0, 0))) (cs : List Value) (m : Nat) (hm : Nat.min sLen dLen = m) (hn : cs.length = m * z)
    (hsrc : ∀ j v, cs[j]? = some v → w.cell? (ad.add j) = some v) (hfit : off + cs.length ≤ cur.length) (h1 : ∀ v ∈ cs, v.oneCell' = true) (B : Nat) (w0 : World) (hb : Below B w0 w) (hBg : B ≤ g)
    (h : ∀ w', Aside0 (w'.heap[g]? = some (.cells (splice cur off cs).toArray t (0, 0))) → Below B w0 w' → wpList P ops Q rest (a.put o.dst (goInt m)) w') : wpList P ops Q (o :: rest) a w := by
  refine wpList_plain hgd fun K hK => ?_
  have hrun := run_copy_rowz (P := P) w dT sT o.type elem g off dLen dCap ad sLen sCap cur.toArray t cs z hu hsz hg m hm hn hsrc (by simpa using hfit) h1
  unfold Oper.wp
  simp [execOp, ho, resolve, invoke, builtin, hd, hs, hrun, Result.andThen]
  exact hK _ _ (h _ ⟨by simpa [splice] using setRow_heap w g _ _ t _ hg⟩ (below_setRow hb hBg _))
theorem step_copy_rowz {P : Program} {ops : Array Oper} {o : Oper} {a : Act} {w : World} {K : Act → World → Prop} {Q : Exit → Act → World → Prop} {E : Prop} (hgd : o.guard = none) (d s : Operand) (dT sT : TypeId)
    (ho : o.op = .call { callee := .builtin .copy, args := #[d, s], argTypes := #[dT, sT] }) (elem : TypeId) (z : Nat) (hu : P.underlying dT = some (.slice elem)) (hsz : (P.info? elem).map (·.size) = some z)
    (g off dLen dCap : Nat) (ad : Addr) (sLen sCap : Nat) (hd : a.eval d = .slice (some ⟨g, off, none⟩) dLen dCap) (hs : a.eval s = .slice (some ad) sLen sCap)
    (cur : List Value) (t : TypeId) (hg : w.heap[g]? = some (.cells cur.toArray t (0, 0))) (cs : List Value) (m : Nat) (hm : Nat.min sLen dLen = m) (hn : cs.length = m * z)
    (hsrc : ∀ j v, cs[j]? = some v → w.cell? (ad.add j) = some v) (hfit : off + cs.length ≤ cur.length) (h1 : ∀ v ∈ cs, v.oneCell' = true) (B : Nat) (w0 : World) (hb : Below B w0 w) (hBg : B ≤ g)
    (h : ∀ w', Aside0 (w'.heap[g]? = some (.cells (splice cur off cs).toArray t (0, 0))) → Below B w0 w' → K (a.put o.dst (goInt m)) w') :
    if Region.wanted o (yielded ops a.tmps) = true then Oper.wp P o a w K Q else E := by
  have hw : Region.wanted o (yielded ops a.tmps) = true := by simp [Region.wanted, hgd]
  rw [if_pos hw]
  have hrun := run_copy_rowz (P := P) w dT sT o.type elem g off dLen dCap ad sLen sCap cur.toArray t cs z hu hsz hg m hm hn hsrc (by simpa using hfit) h1
  unfold Oper.wp
  simp [execOp, ho, resolve, invoke, builtin, hd, hs, hrun, Result.andThen]
  exact h _ ⟨by simpa [splice] using setRow_heap w g _ _ t _ hg⟩ (below_setRow hb hBg _)
/-- k elements a, b one after another. -/
def repC (a b : Value) (k : Nat) : List Value := (List.replicate k [a, b]).flatten
theorem repC_len (a b : Value) (k : Nat) : (repC a b k).length = k * 2 := by simp [repC]
theorem repC_add (a b : Value) (k j : Nat) : repC a b (k + j) = repC a b k ++ repC a b j := by
  unfold repC
  rw [← List.flatten_append, List.replicate_append_replicate]
theorem repC_one {a b : Value} (ha : a.oneCell' = true) (hb : b.oneCell' = true) (k : Nat) : ∀ v ∈ repC a b k, v.oneCell' = true := by
  intro v hv
  simp only [repC, List.mem_flatten, List.mem_replicate] at hv
  obtain ⟨l, ⟨-, rfl⟩, hv⟩ := hv
  simp only [List.mem_cons, List.not_mem_nil, or_false] at hv
  rcases hv with rfl | rfl <;> assumption
theorem repC_splice (a b x y : Value) (k j m : Nat) : splice (repC a b k ++ repC x y (j + m)) (k * 2) (repC a b j) = repC a b (k + j) ++ repC x y m := by
  unfold splice
  rw [List.take_left' (repC_len a b k), repC_len, repC_add a b, repC_add x y, ← List.append_assoc (repC a b k) (repC x y j), List.drop_left' (by rw [List.length_append, repC_len, repC_len]), List.append_assoc]
theorem repC_zero (x : Value) (N : Nat) : madeCells #[x, x] (N * 2) = (repC x x N).toArray := by
  have h : repC x x N = List.replicate (N * 2) x := by
    induction N with
    | zero => rfl
    | succ N ih => rw [repC_add, ih, show (N + 1) * 2 = N * 2 + 2 by omega, ← List.replicate_append_replicate]; rfl
  rw [h]
  unfold madeCells
  apply Array.ext
  · simp
  · intro i h1 h2
    simp only [Array.getElem_map, Array.getElem_range]
    have h0 : (#[x, x] : Array Value).size = 2 := rfl
    rw [h0]
    rcases (show i % 2 = 0 ∨ i % 2 = 1 by omega) with h3 | h3 <;> rw [h3] <;> simp
theorem repC_get (a b : Value) (N k : Nat) (h : k < N) : (repC a b N)[k * 2]? = some a ∧ (repC a b N)[k * 2 + 1]? = some b := by
  obtain ⟨m, rfl⟩ : ∃ m, N = k + (1 + m) := ⟨N - k - 1, by omega⟩
  have e : repC a b (k + (1 + m)) = repC a b k ++ ([a, b] ++ repC a b m) := by rw [repC_add, repC_add a b 1 m]; rfl
  rw [e]
  constructor
  · rw [List.getElem?_append_right (by rw [repC_len]; omega), repC_len, Nat.sub_self]; rfl
  · rw [List.getElem?_append_right (by rw [repC_len]; omega), repC_len, show k * 2 + 1 - k * 2 = 1 by omega]; rfl
theorem repC_take (a b x y : Value) (k j m : Nat) (h : j ≤ k) (i : Nat) (v : Value) (hv : (repC a b j)[i]? = some v) : (repC a b k ++ repC x y m)[i]? = some v := by
  obtain ⟨p, rfl⟩ : ∃ p, k = j + p := ⟨k - j, by omega⟩
  have hi := (List.getElem?_eq_some_iff.1 hv).1
  rw [repC_add, List.append_assoc, List.getElem?_append_left hi, hv]
theorem rep_src {w : World} {g : Nat} {n d : Int} (h : w.heap[g]? = some (boxF n d)) {K : Nat} (hK : K ≤ 1) (j : Nat) (v : Value) (hv : (repC (.int .i64 n) (.int .i64 d) K)[j]? = some v) : w.cell? ((⟨g, 0, none⟩ : Addr).add j) = some v := by
  have hadd : (⟨g, 0, none⟩ : Addr).add j = ⟨g, j, none⟩ := by unfold Addr.add; split <;> simp_all
  rw [hadd, blk_cell h j]
  rcases (show K = 0 ∨ K = 1 by omega) with rfl | rfl
  · simp [repC] at hv
  · simpa [repC] using hv
theorem rep_own {w : World} {g : Nat} {a b x y : Value} {T : TypeId} {k m : Nat} (h : w.heap[g]? = some (.cells (repC a b k ++ repC x y m).toArray T (0, 0))) {J : Nat} (hJ : J ≤ k) (j : Nat) (v : Value) (hv : (repC a b J)[j]? = some v) : w.cell? ((⟨g, 0, none⟩ : Addr).add j) = some v := by
  have hadd : (⟨g, 0, none⟩ : Addr).add j = ⟨g, j, none⟩ := by unfold Addr.add; split <;> simp_all
  rw [hadd, blk_cell h j]
  have := repC_take a b x y k J m hJ j v hv
  simpa using this
theorem mul_one_is : ∀ N : Nat, N ≤ 16 → bits_Mul.f 1 (N : Int) = some (0, (N : Int)) := by decide +kernel
theorem info_frac : (Try.prog.info? 23).map (fun i => (i.zero, i.size, i.bytes)) = some (some (.agg #[.int .i64 0, .int .i64 0]), 2, 16) := by kernel_rfl
theorem info_frac2 : (Try.prog.info? 23).map (·.size) = some 2 := by kernel_rfl
theorem make_frac (N : Nat) (hN : N ≤ 16) (w : World) : (Instr.makeSlice 44 (.int .i64 (N : Int)) (.int .i64 (N : Int))).run Try.prog w = .ok (.slice (some ⟨w.heap.size, 0, none⟩) N N) (w.alloc (.cells (repC (.int .i64 0) (.int .i64 0) N).toArray 23)) := by
  obtain ⟨i, hi, hz⟩ := Option.map_eq_some_iff.1 info_frac
  simp only [Prod.mk.injEq] at hz
  obtain ⟨hz0, hz1, hz2⟩ := hz
  have h := run_make (P := Try.prog) w 44 23 i _ Try.underlying44 hi hz0 .i64 .i64 (N : Int) (N : Int) (by omega) (by omega) (by rw [hz2]; omega) (by omega)
  rw [Int.toNat_natCast, hz1] at h
  rw [h, ← repC_zero]
  rfl
def RepPost (n d : Int) (N : Nat) (w : World) (e : Ending) (w' : World) : Prop := ∃ g', w.heap.size ≤ g' ∧ e = .returned (.slice (some ⟨g', 0, none⟩) N N) ∧ w'.heap[g']? = some (.cells (repC (.int .i64 n) (.int .i64 d) N).toArray 23 (0, 0)) ∧ Below w.heap.size w w'
set_option maxHeartbeats 3200000 in
set_option maxRecDepth 100000 in
theorem impl_FailChance.repeat_ (g : Nat) (c0 : Nat) (n d : Int) (N : Nat) (w : World) (hN : N ≤ 16) (hg : w.heap[g]? = some (boxF n d)) :
    Calls Try.prog 69 #[.slice (some ⟨g, 0, none⟩) 1 c0, .int .i64 (N : Int)] w (RepPost n d N w) := by
  have hneg : decide ((N : Int) < 0) = false := decide_eq_false (by omega)
  have hbig : decide ((9223372036854775807 : Int) < (N : Int)) = false := decide_eq_false (by omega)
  have hu : IntKind.u64.wrap (N : Int) = (N : Int) := by rw [IntKind.wrap_u64]; omega
  have hi : IntKind.i64.wrap (N : Int) = (N : Int) := by rw [IntKind.wrap_i64]; omega
  have HM := Aside0.mk (mul_one_is N hN)
  have HG := Aside0.mk hg
  have hmk := make_frac N hN
  obtain ⟨K0, hK0⟩ : ∃ K0, Nat.min 1 N = K0 := ⟨_, rfl⟩
  have hK1 : K0 ≤ N ∧ (N = 0 ∨ 1 ≤ K0) ∧ K0 ≤ 1 := by subst hK0; simp only [Nat.min_def]; split <;> omega
  have HK0 := Aside0.mk hK0
  have HK1 := Aside0.mk hK1
  clear hg hK0 hK1
  go_enter Try.func69, Try.ntmps69
  go_wp2_with (first
    | (go_at_call 94; refine (bits_Mul.calls 1 (N : Int) _ _ _ HM.out).mono ?_; rintro e w1 ⟨rfl, m, hm⟩; have G1 := Aside0.mk (show w1.heap[g]? = some (boxF n d) by rw [hm]; exact HG.out); have C1 := Aside0.mk (show Below w.heap.size w w1 by rw [hm]; exact pw_below_drewN (Below.refl _ _) m); clear hm)
    | ((with_reducible refine gate_builtin (b := .copy) (xs := #[.tmp 31, .tmp 32]) rfl ?_); refine wpList_copy_rowz rfl (.tmp 31) (.tmp 32) 44 44 rfl 23 2 Try.underlying44 info_frac2 w1.heap.size 0 N N ⟨g, 0, none⟩ 1 c0 rfl rfl (repC (.int .i64 0) (.int .i64 0) N) 23 (blk_new w1 _) (repC (.int .i64 n) (.int .i64 d) K0) K0 HK0.out (repC_len _ _ _) ?aS ?aF ?aO w.heap.size w (below_alloc C1.out _) C1.out.size ?_; (case aS => exact rep_src (blk_alloc G1.out _) HK1.out.2.2); (case aF => (rw [repC_len, repC_len]; have := HK1.out.1; omega)); (case aO => exact repC_one rfl rfl _); intro w2 HR2 hB2; have B2 := Aside0.mk hB2; clear hB2))
  go_loopw [8] (fun v8 wr => ∃ k : Nat, k ≤ N ∧ (N = 0 ∨ 1 ≤ k) ∧ v8 = .int .i64 (k : Int) ∧ Aside0 (wr.heap[w1.heap.size]? = some (.cells (repC (.int .i64 n) (.int .i64 d) k ++ repC (.int .i64 0) (.int .i64 0) (N - k)).toArray 23 (0, 0))) ∧ Aside0 (Below w.heap.size w wr)) (fun v8 _ => N - (intOf v8).toNat)
  case atStart =>
    refine ⟨K0, HK1.out.1, HK1.out.2.1, rfl, ⟨?_⟩, B2⟩
    have h := HR2.out
    have e := repC_splice (.int .i64 n) (.int .i64 d) (.int .i64 0) (.int .i64 0) 0 K0 (N - K0)
    rw [show K0 + (N - K0) = N by have := HK1.out.1; omega, Nat.zero_add, Nat.zero_mul] at e
    rw [show repC (.int .i64 n) (.int .i64 d) 0 ++ repC (.int .i64 0) (.int .i64 0) N = repC (.int .i64 0) (.int .i64 0) N from rfl] at e
    rw [e] at h
    exact h
  case round =>
    obtain ⟨k, hk, hk1, rfl, HR, HB⟩ := hrel
    by_cases hlt : k < N
    · obtain ⟨j, hj⟩ : ∃ j, Nat.min k (N - k) = j := ⟨_, rfl⟩
      have hj2 : j ≤ k ∧ j ≤ N - k ∧ 1 ≤ j := by subst hj; simp only [Nat.min_def]; split <;> omega
      obtain ⟨m, hm⟩ : ∃ m, N - k = j + m := ⟨N - k - j, by omega⟩
      have hw : IntKind.i64.wrap ((k : Int) + (j : Int)) = ((k + j : Nat) : Int) := by rw [IntKind.wrap_i64]; omega
      have hNk : ¬ N = k := by omega
      have hb0 : (0 : Int) ≤ (k : Int) := by omega
      have hb1 : (k : Int) ≤ (N : Int) := by omega
      have HJ := Aside0.mk hj
      have HJ2 := Aside0.mk hj2
      have HMM := Aside0.mk hm
      have hsp := repC_splice (.int .i64 n) (.int .i64 d) (.int .i64 0) (.int .i64 0) k j m
      have HSP := Aside0.mk hsp
      have HRm := HR.out
      rw [hm] at HRm
      have HR' := Aside0.mk HRm
      clear hj hj2 hm hsp HRm
      go_wp2
      go_region_law (refine step_copy_rowz rfl (.tmp 41) (.tmp 44) 44 44 (by rfl) 23 2 Try.underlying44 info_frac2 w1.heap.size (k * 2) (N - k) (N - k) ⟨w1.heap.size, 0, none⟩ k N (by rfl) (by rfl) (repC (.int .i64 n) (.int .i64 d) k ++ repC (.int .i64 0) (.int .i64 0) (j + m)) 23 HR'.out (repC (.int .i64 n) (.int .i64 d) j) j HJ.out (repC_len _ _ _) (rep_own HR'.out HJ2.out.1) (by rw [List.length_append, repC_len, repC_len, repC_len]; omega) (repC_one rfl rfl _) w.heap.size w (below_drew HB.out) C1.out.size ?_; intro w4 HR4 hB4; have B4 := Aside0.mk hB4; clear hB4)
      simp only [Act.put, List.getElem_toArray, List.getElem_cons_zero, List.getElem_cons_succ, List.setIfInBounds_toArray, List.set_cons_zero, List.set_cons_succ]
      go_wp2
      refine ⟨?_, ?_⟩
      · first
          | (refine ⟨k + j, by have := HJ2.out; omega, Or.inr (by have := HJ2.out; omega), rfl, ⟨?_⟩, B4⟩
             have h4 := HR4.out
             rw [HSP.out] at h4
             rw [show N - (k + j) = m by have := HMM.out; omega]
             exact h4)
          | ((repeat apply Exists.intro)
             refine ⟨⟨k + j, by have := HJ2.out; omega, Or.inr (by have := HJ2.out; omega), rfl, ⟨?_⟩, B4⟩, rfl⟩
             have h4 := HR4.out
             rw [HSP.out] at h4
             rw [show N - (k + j) = m by have := HMM.out; omega]
             exact h4)
          | (trace_state; sorry)
      · simp [intOf]; have := HJ2.out; omega
    · obtain rfl : k = N := by omega
      have hf := HR.out
      rw [Nat.sub_self, show repC (.int .i64 0) (.int .i64 0) 0 = [] from rfl, List.append_nil] at hf
      have HF := Aside0.mk hf
      clear hf
      go_wp2
      go_ret
      exact ⟨w1.heap.size, C1.out.size, rfl, HF.out, HB.out⟩
end Go.Proofs.Ytenlaanknlafdaa.A
