/- Texts of this claim, put together by this session's pack2.py: each part is introduced by its own comment. No conditions. -/
import Derived.Test.YtdgohcdemnmieaaDoorZ23
import Derived.Test.YtdgohcdemnmieaaDoorA3
import Derived.KernelRfl
/- What is left to prove of the law FnQueues, about numbers and lists alone. Written by this session's row2.py. No conditions. -/
namespace Go.Proofs.YtdgohcdemnmieaaDoor.A
open Go.RowKit Go.Proofs.YtdgohcdemnmieaaDoorW.PrintWords Go.Proofs.YtdgohcdemnmieaaDoorW.PrintLast Go.Proofs.YtdgohcdemnmieaaDoor.O
def laws_FnQueues.Pure : Prop := ∀ (x0 : List Int) (x1 : List Int), Wf_L5 x0 → Wf_L5 x1 → ∃ k, laws_FnQueues.f k x0 x1 = some true
end Go.Proofs.YtdgohcdemnmieaaDoor.A
/- The pure side of FnQueues: a queue is safe exactly if it is reflected, and with right copies it has from 0 words to its depth. No conditions. -/
namespace Go.Proofs.YtdgohcdemnmieaaDoor.Pure
set_option linter.unusedVariables false
set_option linter.unusedSimpArgs false
open Go.RowKit Go.Proofs.YtdgohcdemnmieaaDoor.A Go.Proofs.YtdgohcdemnmieaaDoorW.PrintWords Go.Proofs.YtdgohcdemnmieaaDoorW.PrintLast Go.Proofs.YtdgohcdemnmieaaDoorW.PrintMore
/-- How many words there are behind each step. -/
def FillsOk (q : Nat) : Nat → List UInt8 → List Int → Prop
  | _, [], [] => True
  | b, c :: l, f :: fs => ∃ m : Nat, f = (m : Int) ∧ m ≤ q ∧ (c = 115 ∧ (m = b ∨ m = b + 1) ∨ c = 114 ∧ (m = b ∨ m + 1 = b)) ∧ FillsOk q m l fs
  | _, _, _ => False
theorem run_ok {q : Nat} {q0 q1 : Int} {T : List (Nat × Nat × Nat)} (hT : Turns q q0 q1 T) : ∀ (l : List UInt8) (t : Nat × Nat × Nat) (out : List Int), t ∈ T → (∀ b ∈ l, b = 114 ∨ b = 115) → ∃ F, runL q0 q1 l (decY t.1) out = some (out ++ F) ∧ F.length = l.length ∧ FillsOk q (t.1 % 8) l F
  | [], t, out, ht, hl => ⟨[], by simp [runL], rfl, trivial⟩
  | b :: l, t, out, ht, hl => by
    obtain ⟨h1, ⟨u, hu, e1, c1⟩, ⟨v, hv, e2, c2⟩⟩ := hT t ht
    rcases hl b (List.mem_cons_self ..) with rfl | rfl
    · obtain ⟨F, f1, f2, f3⟩ := run_ok hT l u (out ++ [(decY u.1).f6]) hu (fun b hb => hl b (List.mem_cons_of_mem _ hb))
      refine ⟨(decY u.1).f6 :: F, ?_, by rw [List.length_cons, List.length_cons, f2], u.1 % 8, rfl, (hT u hu).1, .inr ⟨rfl, c1⟩, f3⟩
      rw [runL, show (((114 : UInt8).toNat : Nat) : Int) = 114 from rfl, e1, Option.bind_some, f1]
      simp
    · obtain ⟨F, f1, f2, f3⟩ := run_ok hT l v (out ++ [(decY v.1).f6]) hv (fun b hb => hl b (List.mem_cons_of_mem _ hb))
      refine ⟨(decY v.1).f6 :: F, ?_, by rw [List.length_cons, List.length_cons, f2], v.1 % 8, rfl, (hT v hv).1, .inl ⟨rfl, c2⟩, f3⟩
      rw [runL, show (((115 : UInt8).toNat : Nat) : Int) = 115 from rfl, e2, Option.bind_some, f1]
      simp
/-- The law's last part: a chance of failing. -/
def chanceE (t264 : Int) : Option Bool := (impl_MakeFraction.f t264 10).bind fun bt265 => ((impl_FailChance.f bt265.1 bt265.2.1 3).bind fun bt269 => ((impl_FailChance.f bt265.1 bt265.2.1 2).bind fun bt273 => ((impl_FailChance.f bt265.1 bt265.2.1 0).bind fun bt277 => ((impl_MulFractions.f bt273.1 bt273.2.1 bt265.1 bt265.2.1).bind fun bt281 => (if bt265.2.2 = true then (if bt269.2.2 = true then (if bt273.2.2 = true then (if bt277.2.2 = true then (if bt281.2.2 = true then (if (bt281.1 == bt269.1 && (bt281.2.1 == bt269.2.1)) = true then (some (bt277.1 == 1 && (bt277.2.1 == 1))) else (none)) else (none)) else (none)) else (none)) else (none)) else (none))))))
theorem chance_all : ((List.range 10).map fun n : Nat => chanceE (Int.ofNat n)) = List.replicate 10 (some true) := by kernel_rfl
theorem chance_ok (x : Int) (h0 : 0 ≤ x) (h1 : x < 10) : chanceE x = some true := by
  obtain ⟨n, rfl⟩ := Int.eq_ofNat_of_zero_le h0
  have hm : chanceE (Int.ofNat n) ∈ ((List.range 10).map fun n : Nat => chanceE (Int.ofNat n)) := List.mem_map.2 ⟨n, List.mem_range.2 (by omega), rfl⟩
  rw [chance_all] at hm
  exact (List.mem_replicate.1 hm).2
theorem bt_l (s : ByteArray) (p : List UInt8) (b : UInt8) (l : List UInt8) (h : s.data.toList = p ++ b :: l) : p.length < s.size ∧ bt s (p.length : Int) = (b.toNat : Int) := by
  have hl : s.data.toList.length = s.size := by simp
  have hlt : p.length < s.size := by rw [← hl, h]; simp
  refine ⟨hlt, ?_⟩
  rw [bt_list s p.length hlt]
  congr 2
  simp [h]
theorem rd_l (P : List Int) (f : Int) (fs : List Int) : rd (P ++ f :: fs) (P.length : Int) = f := by simp [rd]
set_option maxHeartbeats 1000000 in
theorem ev_fills {x1 : List Int} (hu : U8 x1) (s : ByteArray) (F : List Int) (q : Nat) (hq : q ≤ 4) (v : Int) (hF : F.length ≤ 60) : ∀ (l p : List UInt8) (fs P : List Int) (b : Nat), s.data.toList = p ++ l → F = P ++ fs → P.length = p.length → fs.length = l.length → b ≤ q → FillsOk q b l fs →
    Ev (fun k => laws_FnQueues.l0 k x1 s F (b : Int) (P.length : Int) (q : Int) v) true
  | [], p, [], P, b, hs, hf, hp, hl, hb, hk => by
    obtain ⟨x, hx, x0, x1'⟩ := b10At_eq hu 0 10 (by omega) (by omega)
    have hc := chance_ok x x0 x1'
    refine Ev.step (f := fun _ => chanceE x) (fun k => ?_) (by rw [hc]; exact Ev.now _)
    simp only [laws_FnQueues.l0]
    rw [if_neg (by rw [hf]; simp), hx, Option.bind_some]
    rfl
  | [], _, f :: fs, P, b, hs, hf, hp, hl, hb, hk => by simp at hl
  | c :: l, p, [], P, b, hs, hf, hp, hl, hb, hk => by simp at hl
  | c :: l, p, f :: fs, P, b, hs, hf, hp, hl, hb, hk => by
    obtain ⟨m, rfl, hm, hc, hk⟩ := hk
    obtain ⟨d1, d2⟩ := bt_l s p c l hs
    have hPl : P.length < F.length := by rw [hf]; simp
    have ih := ev_fills hu s F q hq v hF l (p ++ [c]) fs (P ++ [(m : Int)]) m (by simp [hs]) (by simp [hf]) (by simp [hp]) (by simpa using hl) hm hk
    have hi : (((P ++ [(m : Int)]).length : Nat) : Int) = ((P.length + 1 : Nat) : Int) := by simp
    rw [hi] at ih
    have hr : rd F (P.length : Int) = (m : Int) := by rw [hf]; exact rd_l P _ fs
    rw [← hp] at d1 d2
    have g1 : (P.length : Int) < (F.length : Int) := by omega
    have g2 : (P.length : Int) < (s.size : Int) := by omega
    have g3 : ¬ ((m : Int) < 0) := by omega
    have g4 : ¬ ((m : Int) > (q : Int)) := by omega
    have hw : wrap64 ((P.length : Int) + 1) = ((P.length + 1 : Nat) : Int) := by rw [w64 (by omega) (by omega)]; rfl
    have HW := Aside0.mk hw
    clear hw
    rcases hc with ⟨rfl, hc⟩ | ⟨rfl, hc⟩
    · have hw2 : wrap64 ((b : Int) + 1) = ((b + 1 : Nat) : Int) := by rw [w64 (by omega) (by omega)]; rfl
      refine Ev.step (fun k => ?_) ih
      simp only [laws_FnQueues.l0]
      rw [if_pos g1, if_pos (Int.natCast_nonneg _), if_pos g2, d2, if_pos (show (((115 : UInt8).toNat : Nat) : Int) = 115 from rfl), hr, if_neg g3, if_neg g4, HW.out, hw2]
      clear hw2 HW ih hs hf d1 d2 hr hk
      by_cases e : m = b
      · rw [if_pos (by omega)]
      · rw [if_neg (by omega), if_pos (by omega)]
    · refine Ev.step (fun k => ?_) ih
      simp only [laws_FnQueues.l0]
      rw [if_pos g1, if_pos (Int.natCast_nonneg _), if_pos g2, d2, if_neg (show ¬ (((114 : UInt8).toNat : Nat) : Int) = 115 by decide), hr, if_neg g3, if_neg g4, HW.out]
      clear HW ih hs hf d1 d2 hr hk
      by_cases e : m = b
      · rw [if_pos (by omega)]
      · have hw2 : wrap64 ((b : Int) + (-1)) = ((m : Nat) : Int) := by rw [w64 (by omega) (by omega)]; omega
        rw [hw2]
        clear hw2
        rw [if_neg (by omega), if_pos rfl]
theorem order_ok {xs : List Int} (h : Ord xs) : (strOfNums xs).size ≤ 60 ∧ (∀ b ∈ (strOfNums xs).data.toList, b = 114 ∨ b = 115) ∧ impl_isOrder.f (strOfNums xs) = some true := by
  have h1 : (strOfNums xs).size = xs.length := by simp [strOfNums, ByteArray.size]
  have h2 : ∀ b ∈ (strOfNums xs).data.toList, b = 114 ∨ b = 115 := by
    intro b hb
    unfold strOfNums at hb
    simp only [List.toList_toArray, List.mem_map] at hb
    obtain ⟨x, hx, rfl⟩ := hb
    rcases h.2 x hx with rfl | rfl
    · exact .inl rfl
    · exact .inr rfl
  refine ⟨by rw [h1]; exact h.1, h2, ?_⟩
  unfold impl_isOrder.f strings_Trim.f
  have hz := h.1
  rw [if_pos (by omega), if_pos ⟨by omega, by decide, by decide⟩, Option.bind_some, ByteArray.toList_mk]
  have ht := trim_nil (strOfNums xs).data.toList [114, 115]
  have ha : (strOfNums xs).data.toList.all (([114, 115] : List UInt8).contains ·) = true := by
    rw [List.all_eq_true]
    intro b hb
    rcases h2 b hb with rfl | rfl <;> decide
  rw [ha] at ht
  exact congrArg some ht
theorem core {x1 : List Int} (hu : U8 x1) (q : Nat) (hq : q ≤ 4) (q1 : Int) (T : List (Nat × Nat × Nat)) (hT : Turns q (q : Int) q1 T) (t : Nat × Nat × Nat) (ht : t ∈ T) (ht0 : t.1 = 0) (hV : impl_ValidQueue.f (q : Int) q1 = some true) (r1 : ByteArray) (r2 : Bool) (hQ : qfF 100000 (q : Int) q1 = some (r1, r2)) (hA : ((!r2) != (q1 == 1)) = false) (hB : (r2 != (q1 == 0)) = false) (hC : r2 = true → ((r1.size : Int) == 0) = false) {xs : List Int} (hx : Ord xs) :
    Ev (fun k => (impl_RunQueue.f (q : Int) q1 (strOfNums xs)).bind fun bt244 => ((impl_QueueFault.f k (q : Int) q1).bind fun bt248 => (if bt244.2 = true then (if (bt244.1.length : Int) = ((strOfNums xs).size : Int) then ((impl_ValidQueue.f (q : Int) q1).bind fun t250 => (if t250 = true then ((impl_IsSafeQueue.f k (q : Int) q1).bind fun t251 => (if (t251 != (q1 == 1)) = true then (none) else (if (bt248.2 != (q1 == 0)) = true then (none) else (if bt248.2 = true then (laws_FnQueues.j0 k x1 (strOfNums xs) bt244.1 ((bt248.1.size : Int) == 0) (q : Int) q1) else (laws_FnQueues.j0 k x1 (strOfNums xs) bt244.1 false (q : Int) q1))))) else (none))) else (none)) else (none)))) true := by
  obtain ⟨o1, o2, o3⟩ := order_ok hx
  have hd : decY t.1 = ⟨0, 0, 0, 0, 0, 0, 0⟩ := by rw [ht0]; rfl
  obtain ⟨F, f1, f2, f3⟩ := run_ok hT (strOfNums xs).data.toList t [] ht o2
  rw [hd, List.nil_append] at f1
  have hl : (strOfNums xs).data.toList.length = (strOfNums xs).size := by simp
  have hR : impl_RunQueue.f (q : Int) q1 (strOfNums xs) = some (F, true) := by
    unfold impl_RunQueue.f
    rw [if_pos ⟨hV, o3, by omega⟩, f1]; rfl
  have hqf : Ev (fun k => impl_queueFault.f k (q : Int) q1) (r1, r2) := by
    obtain ⟨FU, hFU⟩ : ∃ FU : Nat, FU = 100000 := ⟨_, rfl⟩
    refine ⟨FU, fun k hk => ?_⟩
    show impl_queueFault.f k (q : Int) q1 = _
    unfold impl_queueFault.f
    rw [if_pos (by omega), hQ]
  have hF : Ev (fun k => impl_QueueFault.f k (q : Int) q1) (r1, r2) := by
    unfold impl_QueueFault.f
    simp only [hV, Option.bind_some, if_true]
    exact Ev.bind hqf (Ev.now _)
  have hS : Ev (fun k => impl_IsSafeQueue.f k (q : Int) q1) (!r2) := by
    unfold impl_IsSafeQueue.f
    simp only [hV, Option.bind_some, if_true]
    exact Ev.bind hqf (Ev.now _)
  have hfin : Ev (fun k => laws_FnQueues.j0 k x1 (strOfNums xs) F false (q : Int) q1) true := by
    have h0 := ev_fills hu (strOfNums xs) F q hq q1 (by rw [f2, hl]; exact o1) (strOfNums xs).data.toList [] F [] (t.1 % 8) rfl rfl rfl f2 (by rw [ht0]; exact Nat.zero_le _) f3
    refine Ev.step (fun k => ?_) h0
    simp only [laws_FnQueues.j0]
    rw [if_neg (by decide), ht0]; rfl
  simp only [hR, Option.bind_some]
  refine Ev.bind hF ?_
  simp only [if_true, hV, Option.bind_some, if_pos (show ((F.length : Nat) : Int) = ((strOfNums xs).size : Int) by rw [f2, hl])]
  refine Ev.bind hS ?_
  simp only [hA, hB, Bool.false_eq_true, if_false]
  cases r2
  · simp only [Bool.false_eq_true, if_false]; exact hfin
  · simp only [if_true, hC rfl]; exact hfin
theorem FnQueues : laws_FnQueues.Pure := by
  intro x0 x1 w0 w1
  refine Ev.rounds ?_
  show Ev (fun k => laws_FnQueues.f k x0 x1) true
  unfold laws_FnQueues.f
  obtain ⟨t, ht, hlen⟩ := long_eq x0 x1
  simp only [ht, Option.bind_some]
  cases t
  · simp only [Bool.false_eq_true, if_false]
    have u0 : U8 x0 := w0.2
    have u1 : U8 x1 := w1.2
    obtain ⟨a, ha, a0, a1⟩ := b10At_eq u0 0 2 (by omega) (by omega)
    obtain ⟨b, hb, b0, b1⟩ := b10At_eq u0 1 2 (by omega) (by omega)
    simp only [ha, hb, Option.bind_some]
    obtain ⟨xs, hx, he⟩ := b10Order u1
    refine Ev.bind he ?_
    have ea : a = 0 ∨ a = 1 := by omega
    have eb : b = 0 ∨ b = 1 := by omega
    rcases ea with rfl | rfl <;> rcases eb with rfl | rfl
    · rw [show wrap64 (2 + wrap64 (2 * 0)) = ((2 : Nat) : Int) from by unfold wrap64; omega]
      exact core u1 2 (by omega) 0 rt20 rt20_t _ (List.mem_cons_self ..) rfl rfl _ _ qf20 rfl rfl (fun _ => rfl) hx
    · rw [show wrap64 (2 + wrap64 (2 * 0)) = ((2 : Nat) : Int) from by unfold wrap64; omega]
      exact core u1 2 (by omega) 1 rt21 rt21_t _ (List.mem_cons_self ..) rfl rfl _ _ qf21 rfl rfl (fun h => by cases h) hx
    · rw [show wrap64 (2 + wrap64 (2 * 1)) = ((4 : Nat) : Int) from by unfold wrap64; omega]
      exact core u1 4 (by omega) 0 rt40 rt40_t _ (List.mem_cons_self ..) rfl rfl _ _ qf40 rfl rfl (fun _ => rfl) hx
    · rw [show wrap64 (2 + wrap64 (2 * 1)) = ((4 : Nat) : Int) from by unfold wrap64; omega]
      exact core u1 4 (by omega) 1 rt41 rt41_t _ (List.mem_cons_self ..) rfl rfl _ _ qf41 rfl rfl (fun h => by cases h) hx
  · simp only [if_true]; exact Ev.now _
end Go.Proofs.YtdgohcdemnmieaaDoor.Pure
