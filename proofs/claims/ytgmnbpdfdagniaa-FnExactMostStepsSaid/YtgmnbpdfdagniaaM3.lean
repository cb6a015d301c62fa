/- The program's search for the first order, walked. No conditions. -/
import Derived.Test.YtgmnbpdfdagniaaZ32
import Derived.Test.YtgmnbpdfdagniaaZ29
namespace Go.Proofs.Ytgmnbpdfdagniaa.A
open Go.RowKit Go.Proofs.YtgmnbpdfdagniaaW.PrintWords Go.Proofs.YtgmnbpdfdagniaaW.PrintLast Go.Proofs.YtgmnbpdfdagniaaW.PrintMore
set_option linter.unusedVariables false
set_option linter.unusedSimpArgs false
section
variable {P : Program} {ops : Array Oper} {rest : List Oper} {o : Oper} {a : Act} {Q : Exit → Act → World → Prop}
/-- A struct is loaded out of the middle of a block. -/
theorem load_mid_event {W : World} (hgd : o.guard = none) (ty : TypeId) (x : Operand) (ho : o.op = .load ty x) (b off : Nat) (hx : a.eval x = .pointer (some ⟨b, off, none⟩)) (cs : Array Value) (d : TypeDesc) (hc : W.rangeAt b off cs.toList)
    (hu : P.underlying ty = some d) (hd : d.isRow = true) (hi : (P.info? ty).map (·.size) = some cs.toList.length) (h : wpList P ops Q rest (a.put o.dst (.agg cs)) W) : wpList P ops Q (o :: rest) a W :=
  wpList_load_mid hgd ty x ho b off hx cs.toList d hc hu hd hi h
end
theorem look_str (o : Option ByteArray) : (o.map (fun o => Value.string o)).getD (.string ByteArray.empty) = .string (o.getD ByteArray.empty) := by cases o <;> rfl
set_option maxHeartbeats 6400000 in
set_option maxRecDepth 100000 in
theorem foF.calls (K : Nat) (l : Lnk) (ratio : Int) (g : Nat) (lb : Array Value) (hold : LN → Bool → Bool) (r1 : ByteArray) (r2 : Bool) (w : World)
    (eg : ∀ args w, (callFunc g args).run Try.prog w = .ok (.enter g args) w)
    (hh : ∀ x b W, Below w.heap.size w W → Calls Try.prog g (#[valN x, .bool b] ++ lb) W fun e w' => e = .returned (.bool (hold x b)) ∧ Below W.heap.size W w')
    (h : foF K l ratio hold = some (r1, r2)) :
    Calls Try.prog 32 #[.agg #[.int .i64 l.ph, .int .i64 l.sg, .int .i64 l.sk, .int .i64 l.wd], .int .i64 ratio, .func (.func g) #[] lb] w fun e w' => e = .returned (.tuple #[.string r1, .bool r2]) ∧ Below w.heap.size w w' := by
  have H := Aside0.mk h
  have HH := Aside0.mk hh
  have HU := Aside0.mk Try.underlying55
  clear h hh
  go_enter Try.func32, Try.ntmps32
  go_upto_region 2 with (first
    | ((with_reducible refine gate_dst (N := 3) rfl ?_); refine box_event ?hg (N := 3) ?hd (cs := #[.int .i64 l.ph, .int .i64 l.sg, .int .i64 l.sk, .int .i64 l.wd]) (t := 33) ?hr ?_; (case hd => rfl); (case hg => rfl); (case hr => first | (go_simp; done) | (go_simp; rfl)); intro gl hgl W1 hbox hb; have L1 := Aside0.mk (show W1.heap[gl]? = some (boxL l) from hbox); have B1 := Aside0.mk hb; have GL := Aside0.mk hgl; clear hbox hb hgl)
    | (go_at_call 41; (with_reducible refine (startOfLink.calls _).mono ?_); rintro e w2 ⟨rfl, hb⟩; have L2 := Aside0.mk (blk_below L1.out hb); have B2 := Aside0.mk (below_step B1.out hb); clear hb)
    | ((with_reducible refine gate_dst (N := 8) rfl ?_); refine box_event ?hg (N := 8) ?hd (cs := #[.int .i64 0, .int .i64 0, .int .i64 0, .int .i64 0, .bool false, .int .i64 0, .int .i64 0, .int .i64 0, .int .i64 0, .int .i64 0, .int .i64 0, .int .i64 0, .int .u8 0, .int .i64 0]) (t := 55) ?hr ?_; (case hd => rfl); (case hg => rfl); (case hr => first | (go_simp; done) | (go_simp; rfl)); intro gs hgs W3 hbox hb; have S3 := Aside0.mk hbox; have L3 := Aside0.mk (blk_below L2.out hb); have B3 := Aside0.mk (below_step B2.out hb); have NE := Aside0.mk (show gl ≠ gs ∧ w.heap.size ≤ gs by (have h1_ := blk_lt L2.out; have h2_ := B2.out.size; omega)); clear hbox hb hgs)
    | ((with_reducible refine gate_store (t := 55) (p := 8) rfl ?_); refine store_row_event rfl rfl 55 (.tmp 8) (.tmp 20) rfl gs #[.int .i64 0, .int .i64 0, .int .i64 0, .int .i64 (-1), .bool false, .int .i64 0, .int .i64 0, .int .i64 0, .int .i64 0, .int .i64 0, .int .i64 0, .int .i64 0, .int .u8 0, .int .i64 0] rfl rfl 55 _ S3.out (by kernel_rfl) (by first | rfl | kernel_rfl) (by first | rfl | kernel_rfl | simp [Value.oneCell']) ?_; intro W4 hs4 hk4; have S4 := Aside0.mk (show W4.heap[gs]? = some (boxN zN) from hs4); have L4 := Aside0.mk (hk4.keep L3.out NE.out.1); have B4 := Aside0.mk (hk4.low B3.out NE.out.2); clear hs4 hk4))
  go_upto_if 23 with (first
    | ((with_reducible refine gate_dst (N := 22) rfl ?_); refine load_row_event rfl 55 (.tmp 8) rfl gs rfl 55 #[.int .i64 0, .int .i64 0, .int .i64 0, .int .i64 (-1), .bool false, .int .i64 0, .int .i64 0, .int .i64 0, .int .i64 0, .int .i64 0, .int .i64 0, .int .i64 0, .int .u8 0, .int .i64 0] _ S4.out HU.out rfl (by kernel_rfl) ?_)
    | (go_at_fn g; refine (HH.out zN true _ B4.out).mono ?_; rintro e w5 ⟨rfl, hb⟩; have L5 := Aside0.mk (blk_below L4.out hb); have S5 := Aside0.mk (blk_below S4.out hb); have B5 := Aside0.mk (below_step B4.out hb); clear hb))
  have hA := H.out
  unfold foF at hA
  clear H
  by_cases c0 : hold zN true = true
  · rw [if_pos c0] at hA
    cases hA
    rw [c0]
    go_wp2
    go_ret2
    exact ⟨rfl, B5.out⟩
  · have c0b : hold zN true = false := Bool.eq_false_iff.2 c0
    rw [if_neg c0] at hA
    rw [c0b]
    have H := Aside0.mk hA
    clear hA c0 c0b
    have hMM : (Instr.makeMap 88 none).run Try.prog w5 = .ok (.map (some w5.heap.size)) (w5.alloc (.map #[] 0)) := by rw [run_makeMap]
    have hM1 : MapN (w5.alloc (.map #[] 0)) w5.heap.size [] := ⟨#[], 0, blk_new w5 _, rfl⟩
    obtain ⟨w6, hup, hm6, hk6, hs6⟩ := hM1.upd 88 9 Try.underlying88 zN (.string { data := #[] })
    have hup' : (Instr.mapUpdate 88 (.map (some w5.heap.size)) (.agg #[.int .i64 0, .int .i64 0, .int .i64 0, .int .i64 (-1), .bool false, .int .i64 0, .int .i64 0, .int .i64 0, .int .i64 0, .int .i64 0, .int .i64 0, .int .i64 0, .int .u8 0, .int .i64 0]) (.string { data := #[] })).run Try.prog (w5.alloc (.map #[] 0)) = .ok () w6 := hup
    have M6 := Aside0.mk (show MapN w6 w5.heap.size (([(zN, ByteArray.empty)] : MapO).map (fun p => (p.1, .string p.2))) from hm6)
    have S5m := Aside0.mk (blk_alloc S5.out (.map #[] 0))
    have S6 := Aside0.mk (hk6.keep S5m.out (by have := blk_lt S5.out; omega))
    have L6 := Aside0.mk (hk6.keep (blk_alloc L5.out (.map #[] 0)) (by have := blk_lt L5.out; omega))
    have B6 := Aside0.mk (hk6.low (below_alloc B5.out (.map #[] 0)) (fun i e => by have := B5.out.size; omega))
    have BM := Aside0.mk (show w.heap.size ≤ w5.heap.size from B5.out.size)
    clear hM1 hup hm6 hk6 hs6
    go_wp2_with (first
      | ((with_reducible refine gate_dst (N := 25) rfl ?_); refine load_row_event rfl 55 (.tmp 8) rfl gs rfl 55 #[.int .i64 0, .int .i64 0, .int .i64 0, .int .i64 (-1), .bool false, .int .i64 0, .int .i64 0, .int .i64 0, .int .i64 0, .int .i64 0, .int .i64 0, .int .i64 0, .int .u8 0, .int .i64 0] _ S5m.out HU.out rfl (by kernel_rfl) ?_)
      | ((with_reducible refine gate_dst (N := 27) rfl ?_); refine load_row_event rfl 55 (.tmp 8) rfl gs rfl 55 #[.int .i64 0, .int .i64 0, .int .i64 0, .int .i64 (-1), .bool false, .int .i64 0, .int .i64 0, .int .i64 0, .int .i64 0, .int .i64 0, .int .i64 0, .int .i64 0, .int .u8 0, .int .i64 0] _ S6.out HU.out rfl (by kernel_rfl) ?_))
    clear hMM hup'
    obtain ⟨bm, hbm⟩ : ∃ bm, w5.heap.size = bm := ⟨_, rfl⟩
    rw [hbm] at M6 BM ⊢
    clear hbm S5m S5 L5 B5 S4 L4 B4 L1 B1 L2 B2 S3 L3 B3 GL
    go_loopg [10] K (fun kq v10 wr => ∃ (X : List LN) (M : MapO), Aside0 (foRow l ratio hold kq X M = some (r1, r2)) ∧ Aside0 (kq ≤ K) ∧ Aside0 (FI w gl bm l X M wr v10))
    case atStart =>
      refine ⟨[zN], [(zN, ByteArray.empty)], H, ⟨Nat.le_refl _⟩, ⟨⟨⟨w6.heap.size, 0, 1, _, rfl, B6.out.size, blk_new w6 _, Nat.le_refl _, by simp [maxLen], by simp, rfl⟩, M6.out.below (B := 0) (below_alloc (Below.refl _ _) _), blk_alloc L6.out _, below_alloc B6.out _⟩⟩⟩
    case round =>
      clear H M6 S6 L6 B6
      obtain ⟨X, M, HA, HK1, HI⟩ := hrel
      cases gk with
      | zero => exact absurd HA.out (by simp [foRow])
      | succ k1 =>
        have hA := HA.out
        clear HA
        cases X with
        | nil =>
          simp only [foRow] at hA
          have hr := Option.some.inj hA
          injection hr with e1 e2
          subst e1
          subst e2
          obtain ⟨b5, o5, p5, cur5, e5, -⟩ := HI.out.opn
          have e5' : u10 = .slice (some ⟨b5, o5, none⟩) 0 p5 := e5
          subst e5'
          clear e5 hA
          go_wp2
          go_ret2
          exact ⟨rfl, HI.out.bel⟩
        | cons h X =>
          obtain ⟨b5, o5, p5, cur5, e5, -⟩ := HI.out.opn
          obtain ⟨n5, hn5⟩ : ∃ n, (h :: X : List LN).length = n := ⟨_, rfl⟩
          have hn0 : 0 < n5 := by rw [← hn5]; simp
          have hnb : decide ((0 : Int) < (n5 : Int)) = true := decide_eq_true (by omega)
          have hnc : decide (0 < n5) = true := decide_eq_true hn0
          rw [hn5] at e5
          subst e5
          have HN5 := Aside0.mk hn5
          have HA := Aside0.mk hA
          clear hA hn5
          have hcv : (convert 86 86 (.slice (some ⟨wr.heap.size, 0, none⟩) 2 2)).run Try.prog (wr.alloc (.cells #[.int .u8 114, .int .u8 115] 5 (0, 0))) = .ok (.slice (some ⟨wr.heap.size, 0, none⟩) 2 2) (wr.alloc (.cells #[.int .u8 114, .int .u8 115] 5 (2, 3))) := Lib.run_convert_bytes_const wr 86 5 #[.int .u8 114, .int .u8 115] 2 2 Try.underlying86 Try.underlying5
          go_wp2
          clear hcv
          obtain ⟨gq, hgq⟩ : ∃ gq, wr.heap.size = gq := ⟨_, rfl⟩
          have HI2 := Aside0.mk (HI.out.below (below_alloc (Below.refl _ _) (.cells #[.int .u8 114, .int .u8 115] 5 (2, 3))))
          have HL2 := Aside0.mk (show (wr.alloc (.cells #[.int .u8 114, .int .u8 115] 5 (2, 3))).heap[gq]? = some (.cells #[.int .u8 114, .int .u8 115] 5 (2, 3)) by rw [← hgq]; exact blk_new wr _)
          have HGQ := Aside0.mk (show w.heap.size ≤ gq by rw [← hgq]; exact HI.out.bel.size)
          rw [hgq]
          obtain ⟨NX, hNX⟩ : ∃ NX, (fun (X : List LN) (M : MapO) => foRow l ratio hold k1 X M) = NX := ⟨_, rfl⟩
          have HA2 := Aside0.mk (show foLet l ratio hold h NX [114, 115] X M = some (r1, r2) by rw [← hNX]; exact HA.out)
          have HNX := Aside0.mk hNX
          clear hNX HA hgq
          go_loopg [10, 37] 2 (fun kq v10 v37 wr => ∃ (i : Nat) (X : List LN) (M : MapO), i + kq = 2 ∧ v37 = .int .i64 (i : Int) ∧ Aside0 (foLet l ratio hold h NX (([114, 115] : List Int).drop i) X M = some (r1, r2)) ∧ Aside0 (FI w gl bm l (h :: X) M wr v10) ∧ Aside0 (wr.heap[gq]? = some (.cells #[.int .u8 114, .int .u8 115] 5 (2, 3))))
          case atStart => exact ⟨0, X, M, rfl, rfl, HA2, ⟨by have := HI2.out; rw [← HN5.out] at *; exact this⟩, HL2⟩
          case round =>
            clear HA2 HI HI2 HL2 hnb hnc hn0 HN5
            obtain ⟨i, X, M, hik, rfl, HA, HI, HL⟩ := hrel
            rcases (show i = 0 ∨ i = 1 ∨ i = 2 by omega) with rfl | rfl | rfl
            · skip
              have hA : ((afterN l 114 ratio h).bind fun p => if p.2.2 = true then if ((lookN M h).getD ByteArray.empty ++ oneB 114).size ≤ 9223372036854775807 ∧ X.length < 1099511627776 then if hold p.1 p.2.1 = true then some ((lookN M h).getD ByteArray.empty ++ oneB 114, true) else if (lookN M p.1).isSome = false ∧ p.2.1 = true then foLet l ratio hold h NX (([114, 115] : List Int).drop 1) (X ++ [p.1]) (setN M p.1 ((lookN M h).getD ByteArray.empty ++ oneB 114)) else foLet l ratio hold h NX (([114, 115] : List Int).drop 1) X M else none else foLet l ratio hold h NX (([114, 115] : List Int).drop 1) X M) = some (r1, r2) := HA.out
              obtain ⟨⟨y, right, keeps⟩, hy, hA⟩ := Option.bind_eq_some_iff.1 hA
              dsimp only at hA
              have HY := Aside0.mk hy
              have HA1 := Aside0.mk hA
              obtain ⟨b5, o5, p5, cur5, e5, -⟩ := HI.out.opn
              have e5' : u10 = .slice (some ⟨b5, o5, none⟩) (X.length + 1) p5 := e5
              subst e5'
              have h0a : (0 : Int) < (X.length : Int) + 1 := by omega
              have hcl : wr.cell? ⟨gq, 0, none⟩ = some (.int .u8 114) := (cell_of_row wr gq 0 _ 5 (2, 3) HL.out).trans rfl
              clear hy hA e5
              go_upto_region 11 with (fail)
              clear hcl
              go_cut [13, 14, 15] from 41 to 51 (fun v13 v14 v15 wc => ∃ gy, v13 = .pointer (some ⟨gy, 0, none⟩) ∧ v14 = .bool right ∧ v15 = .bool keeps ∧ Aside0 (FI w gl bm l (h :: X) M wc (.slice (some ⟨b5, o5, none⟩) (X.length + 1) p5)) ∧ Aside0 (wc.heap[gq]? = some (.cells #[.int .u8 114, .int .u8 115] 5 (2, 3))) ∧ Aside0 (wc.heap[gy]? = some (boxN y)))
              case first =>
                have F0 := Aside0.mk (HI.out.below (below_drew (Below.refl wr.heap.size wr)))
                have Q0 := Aside0.mk (show wr.drew.heap[gq]? = some (.cells #[.int .u8 114, .int .u8 115] 5 (2, 3)) from HL.out)
                refine wp_region_held_drew (S := fun w' => w'.rangeAt b5 o5 (cellsN h) ∧ w'.heap[gl]? = some (boxL l)) (by kernel_rfl) ⟨OpenN.head F0.out.opn, F0.out.lb⟩ (fun hHeld => ?_)
                refine wpAnyH_take (i := 0) (oi := { dst := some 42, op := .move (.tmp 10), type := 89, pos := _, after := _, guard := none }) (v := .slice (some ⟨b5, o5, none⟩) (X.length + 1) p5) rfl (by kernel_rfl) (by kernel_rfl) (by kernel_rfl) (fun _ _ _ h => h) (Or.inl ⟨by rfl, by intro w hSw; (try dsimp only at hSw); go_simp⟩) (by assumption) ?_
                simp only [Act.put, List.setIfInBounds_toArray, List.set_cons_zero, List.set_cons_succ]
                refine wpAnyH_take (i := 1) (oi := { dst := some 43, op := .indexAddr 89 (.tmp 42) (.const (.int .i64 0)), type := 0, pos := _, after := _, guard := none }) (v := .pointer (some ⟨b5, o5, none⟩)) rfl (by kernel_rfl) (by kernel_rfl) (by kernel_rfl) (fun _ _ _ h => h) (Or.inl ⟨by rfl, by intro w hSw; (try dsimp only at hSw); go_simp⟩) (by assumption) ?_
                simp only [Act.put, List.setIfInBounds_toArray, List.set_cons_zero, List.set_cons_succ]
                refine wpAnyH_take (i := 2) (oi := { dst := some 44, op := .load 55 (.tmp 43), type := 55, pos := _, after := _, guard := none }) (v := .agg #[.int .i64 h.sent, .int .i64 h.req, .int .i64 h.ans, .int .i64 h.plc, .bool h.ow, .int .i64 h.word, .int .i64 h.gone, .int .i64 h.s0, .int .i64 h.s1, .int .i64 h.r0, .int .i64 h.r1, .int .i64 h.taken, .int .u8 h.last, .int .i64 h.run]) rfl (by kernel_rfl) (by kernel_rfl) (by kernel_rfl) (fun _ _ _ h => h) (yieldsIf_load_mid (by rfl) 55 (.tmp 43) rfl b5 o5 rfl (cellsN h) _ (fun w h => h.1) HU.out rfl (by kernel_rfl)) (by assumption) ?_
                simp only [Act.put, List.setIfInBounds_toArray, List.set_cons_zero, List.set_cons_succ]
                refine wpAnyH_take (i := 3) (oi := { dst := some 45, op := .load 33 (.tmp 3), type := 33, pos := _, after := _, guard := none }) (v := .agg #[.int .i64 l.ph, .int .i64 l.sg, .int .i64 l.sk, .int .i64 l.wd]) rfl (by kernel_rfl) (by kernel_rfl) (by kernel_rfl) (fun _ _ _ h => h) (yields_load_row (by rfl) 33 (.tmp 3) rfl gl rfl 33 #[.int .i64 l.ph, .int .i64 l.sg, .int .i64 l.sk, .int .i64 l.wd] _ (fun w h => h.2) Try.underlying33 rfl (by kernel_rfl)) (by assumption) ?_
                simp only [Act.put, List.setIfInBounds_toArray, List.set_cons_zero, List.set_cons_succ]
                refine wpAnyH_take (i := 4) (oi := { dst := some 46, op := .move (.tmp 12), type := 5, pos := _, after := _, guard := none }) (v := .int .u8 114) rfl (by kernel_rfl) (by kernel_rfl) (by kernel_rfl) (fun _ _ _ h => h) (Or.inl ⟨by rfl, by intro w hSw; (try dsimp only at hSw); go_simp⟩) (by assumption) ?_
                simp only [Act.put, List.setIfInBounds_toArray, List.set_cons_zero, List.set_cons_succ]
                refine wpAnyH_take (i := 5) (oi := { dst := some 47, op := .move (.tmp 1), type := 2, pos := _, after := _, guard := none }) (v := .int .i64 ratio) rfl (by kernel_rfl) (by kernel_rfl) (by kernel_rfl) (fun _ _ _ h => h) (Or.inl ⟨by rfl, by intro w hSw; (try dsimp only at hSw); go_simp⟩) (by assumption) ?_
                simp only [Act.put, List.setIfInBounds_toArray, List.set_cons_zero, List.set_cons_succ]
                refine wpAnyH_ready (rs := [6, 11]) (by kernel_rfl) (by simp) ?_
                refine AllReadyH.cons (o := { dst := some 48, op := .call { callee := .value (.func 48), args := #[.tmp 44, .tmp 45, .tmp 46, .tmp 47], argTypes := #[55, 33, 5, 2] }, type := 90, pos := _, after := _, guard := none }) rfl ?s1 ?m1
                case s1 =>
                  intro K hK
                  rw [if_pos (by rfl)]
                  go_simp
                  go_at_call 48
                  (with_reducible refine (afterN.calls l 114 ratio h y right keeps _ HY.out).mono ?_)
                  rintro e v1 ⟨rfl, hb⟩
                  have F1 := Aside0.mk (F0.out.below hb)
                  have Q1 := Aside0.mk (blk_below Q0.out hb)
                  clear hb
                  refine hK.out _ _ ⟨OpenN.head F1.out.opn, F1.out.lb⟩ (fun hHeld => ?_)
                  clear hK K
                  refine wpAnyH_take (i := 7) (oi := { dst := some 41, op := .move (.tmp 48), type := 90, pos := _, after := _, guard := none }) (v := .tuple #[.agg #[.int .i64 y.sent, .int .i64 y.req, .int .i64 y.ans, .int .i64 y.plc, .bool y.ow, .int .i64 y.word, .int .i64 y.gone, .int .i64 y.s0, .int .i64 y.s1, .int .i64 y.r0, .int .i64 y.r1, .int .i64 y.taken, .int .u8 y.last, .int .i64 y.run], .bool right, .bool keeps]) rfl (by kernel_rfl) (by kernel_rfl) (by kernel_rfl) (fun _ _ _ h => h) (Or.inl ⟨by rfl, by intro w hSw; (try dsimp only at hSw); go_simp⟩) (by assumption) ?_
                  simp only [Act.put, List.setIfInBounds_toArray, List.set_cons_zero, List.set_cons_succ]
                  refine wpAnyH_take (i := 8) (oi := { dst := some 49, op := .extract (.tmp 41) 0, type := 55, pos := _, after := _, guard := none }) (v := .agg #[.int .i64 y.sent, .int .i64 y.req, .int .i64 y.ans, .int .i64 y.plc, .bool y.ow, .int .i64 y.word, .int .i64 y.gone, .int .i64 y.s0, .int .i64 y.s1, .int .i64 y.r0, .int .i64 y.r1, .int .i64 y.taken, .int .u8 y.last, .int .i64 y.run]) rfl (by kernel_rfl) (by kernel_rfl) (by kernel_rfl) (fun _ _ _ h => h) (Or.inl ⟨by rfl, by intro w hSw; (try dsimp only at hSw); go_simp⟩) (by assumption) ?_
                  simp only [Act.put, List.setIfInBounds_toArray, List.set_cons_zero, List.set_cons_succ]
                  refine wpAnyH_take (i := 9) (oi := { dst := some 50, op := .extract (.tmp 41) 1, type := 4, pos := _, after := _, guard := none }) (v := .bool right) rfl (by kernel_rfl) (by kernel_rfl) (by kernel_rfl) (fun _ _ _ h => h) (Or.inl ⟨by rfl, by intro w hSw; (try dsimp only at hSw); go_simp⟩) (by assumption) ?_
                  simp only [Act.put, List.setIfInBounds_toArray, List.set_cons_zero, List.set_cons_succ]
                  refine wpAnyH_take (i := 10) (oi := { dst := some 51, op := .extract (.tmp 41) 2, type := 4, pos := _, after := _, guard := none }) (v := .bool keeps) rfl (by kernel_rfl) (by kernel_rfl) (by kernel_rfl) (fun _ _ _ h => h) (Or.inl ⟨by rfl, by intro w hSw; (try dsimp only at hSw); go_simp⟩) (by assumption) ?_
                  simp only [Act.put, List.setIfInBounds_toArray, List.set_cons_zero, List.set_cons_succ]
                  refine wpAnyH_ready (rs := [11]) (by kernel_rfl) (by simp) ?_
                  refine AllReadyH.cons (o := { dst := some 13, op := .alloc 55, type := 0, pos := _, after := _, guard := none }) rfl ?s2 ?m2
                  case m2 => with_reducible exact AllReadyH.nil
                  intro K hK
                  rw [if_pos (by rfl)]
                  go_simp
                  have F2 := Aside0.mk (F1.out.below (below_alloc (Below.refl v1.heap.size v1) (.cells #[.int .i64 0, .int .i64 0, .int .i64 0, .int .i64 0, .bool false, .int .i64 0, .int .i64 0, .int .i64 0, .int .i64 0, .int .i64 0, .int .i64 0, .int .i64 0, .int .u8 0, .int .i64 0] 55 (0, 0))))
                  have A2 := Aside0.mk (blk_new v1 (.cells #[.int .i64 0, .int .i64 0, .int .i64 0, .int .i64 0, .bool false, .int .i64 0, .int .i64 0, .int .i64 0, .int .i64 0, .int .i64 0, .int .i64 0, .int .i64 0, .int .u8 0, .int .i64 0] 55 (0, 0)))
                  refine hK.out _ _ ⟨OpenN.head F2.out.opn, F2.out.lb⟩ (fun hHeld => ?_)
                  clear hK K
                  refine wpAnyH_ready (rs := [12]) (by kernel_rfl) (by simp) ?_
                  refine AllReadyH.cons (o := { dst := none, op := .store 55 (.tmp 13) (.tmp 49), type := 0, pos := _, after := _, guard := none }) rfl ?s3 ?m3
                  case m3 => with_reducible exact AllReadyH.nil
                  intro K hK
                  rw [if_pos (by rfl)]
                  refine wp_store_row 55 (.tmp 13) (.tmp 49) rfl v1.heap.size #[.int .i64 y.sent, .int .i64 y.req, .int .i64 y.ans, .int .i64 y.plc, .bool y.ow, .int .i64 y.word, .int .i64 y.gone, .int .i64 y.s0, .int .i64 y.s1, .int .i64 y.r0, .int .i64 y.r1, .int .i64 y.taken, .int .u8 y.last, .int .i64 y.run] rfl rfl 55 _ A2.out (by kernel_rfl) (by first | rfl | kernel_rfl) (by first | rfl | kernel_rfl | simp [Value.oneCell']) ?_
                  obtain ⟨W9, hW9⟩ : ∃ W9, World.setRow (v1.alloc (.cells #[.int .i64 0, .int .i64 0, .int .i64 0, .int .i64 0, .bool false, .int .i64 0, .int .i64 0, .int .i64 0, .int .i64 0, .int .i64 0, .int .i64 0, .int .i64 0, .int .u8 0, .int .i64 0] 55 (0, 0))) v1.heap.size #[.int .i64 y.sent, .int .i64 y.req, .int .i64 y.ans, .int .i64 y.plc, .bool y.ow, .int .i64 y.word, .int .i64 y.gone, .int .i64 y.s0, .int .i64 y.s1, .int .i64 y.r0, .int .i64 y.r1, .int .i64 y.taken, .int .u8 y.last, .int .i64 y.run] = W9 := ⟨_, rfl⟩
                  rw [hW9]
                  have KB9 : KB v1.heap.size (v1.alloc (.cells #[.int .i64 0, .int .i64 0, .int .i64 0, .int .i64 0, .bool false, .int .i64 0, .int .i64 0, .int .i64 0, .int .i64 0, .int .i64 0, .int .i64 0, .int .i64 0, .int .u8 0, .int .i64 0] 55 (0, 0))) W9 := by rw [← hW9]; exact ⟨rfl, rfl, rfl, by simp, fun i hi hne => setRow_other _ _ i _ hne⟩
                  have BL9 : Below v1.heap.size v1 W9 := KB.low KB9 (below_alloc (Below.refl _ _) _) (Nat.le_refl _)
                  have F3 := Aside0.mk (F1.out.below BL9)
                  have Q3 := Aside0.mk (blk_below Q1.out BL9)
                  have Y3 := Aside0.mk (show W9.heap[v1.heap.size]? = some (boxN y) by rw [← hW9]; exact setRow_heap _ _ _ _ 55 (0, 0) A2.out)
                  clear hW9 KB9 BL9
                  refine hK.out _ _ ⟨OpenN.head F3.out.opn, F3.out.lb⟩ (fun hHeld => ?_)
                  clear hK K
                  refine wpAnyH_take (i := 13) (oi := { dst := some 14, op := .assign (.tmp 50), type := 4, pos := _, after := _, guard := none }) (v := .bool right) rfl (by kernel_rfl) (by kernel_rfl) (by kernel_rfl) (fun _ _ _ h => h) (Or.inl ⟨by rfl, by intro w hSw; (try dsimp only at hSw); go_simp⟩) (by assumption) ?_
                  simp only [Act.put, List.setIfInBounds_toArray, List.set_cons_zero, List.set_cons_succ]
                  refine wpAnyH_take (i := 14) (oi := { dst := some 15, op := .assign (.tmp 51), type := 4, pos := _, after := _, guard := none }) (v := .bool keeps) rfl (by kernel_rfl) (by kernel_rfl) (by kernel_rfl) (fun _ _ _ h => h) (Or.inl ⟨by rfl, by intro w hSw; (try dsimp only at hSw); go_simp⟩) (by assumption) ?_
                  simp only [Act.put, List.setIfInBounds_toArray, List.set_cons_zero, List.set_cons_succ]
                  refine wpAnyH_done (by kernel_rfl) ?_ _
                  go_wp2
                  go_meet
                  case rel => exact ⟨v1.heap.size, rfl, rfl, rfl, ⟨F3.out⟩, ⟨Q3.out⟩, ⟨Y3.out⟩⟩
                case m1 =>
                  refine AllReadyH.cons (o := { dst := some 13, op := .alloc 55, type := 0, pos := _, after := _, guard := none }) rfl ?s6 ?m6
                  case m6 => with_reducible exact AllReadyH.nil
                  case s6 =>
                    intro K hK
                    rw [if_pos (by rfl)]
                    go_simp
                    obtain ⟨gy, hgy⟩ : ∃ gy, wr.drew.heap.size = gy := ⟨_, rfl⟩
                    have BA := Aside0.mk (show Below wr.drew.heap.size wr.drew (wr.drew.alloc (.cells #[.int .i64 0, .int .i64 0, .int .i64 0, .int .i64 0, .bool false, .int .i64 0, .int .i64 0, .int .i64 0, .int .i64 0, .int .i64 0, .int .i64 0, .int .i64 0, .int .u8 0, .int .i64 0] 55 (0, 0))) from below_alloc (Below.refl wr.drew.heap.size wr.drew) (.cells #[.int .i64 0, .int .i64 0, .int .i64 0, .int .i64 0, .bool false, .int .i64 0, .int .i64 0, .int .i64 0, .int .i64 0, .int .i64 0, .int .i64 0, .int .i64 0, .int .u8 0, .int .i64 0] 55 (0, 0)))
                    have F1 := Aside0.mk (F0.out.below BA.out)
                    have A1 := Aside0.mk (blk_new wr.drew (.cells #[.int .i64 0, .int .i64 0, .int .i64 0, .int .i64 0, .bool false, .int .i64 0, .int .i64 0, .int .i64 0, .int .i64 0, .int .i64 0, .int .i64 0, .int .i64 0, .int .u8 0, .int .i64 0] 55 (0, 0)))
                    refine hK.out _ _ ⟨OpenN.head F1.out.opn, F1.out.lb⟩ (fun hHeld => ?_)
                    clear hK K
                    refine wpAnyH_ready (rs := [6]) (by kernel_rfl) (by simp) ?_
                    refine AllReadyH.cons (o := { dst := some 48, op := .call { callee := .value (.func 48), args := #[.tmp 44, .tmp 45, .tmp 46, .tmp 47], argTypes := #[55, 33, 5, 2] }, type := 90, pos := _, after := _, guard := none }) rfl ?s4 ?m4
                    case m4 => with_reducible exact AllReadyH.nil
                    intro K hK
                    rw [if_pos (by rfl)]
                    go_simp
                    go_at_call 48
                    (with_reducible refine (afterN.calls l 114 ratio h y right keeps _ HY.out).mono ?_)
                    rintro e v1 ⟨rfl, hb⟩
                    have F2 := Aside0.mk (F1.out.below hb)
                    have BB := Aside0.mk (below_step BA.out hb)
                    have A2 := Aside0.mk (blk_below A1.out hb)
                    clear hb
                    refine hK.out _ _ ⟨OpenN.head F2.out.opn, F2.out.lb⟩ (fun hHeld => ?_)
                    clear hK K
                    refine wpAnyH_take (i := 7) (oi := { dst := some 41, op := .move (.tmp 48), type := 90, pos := _, after := _, guard := none }) (v := .tuple #[.agg #[.int .i64 y.sent, .int .i64 y.req, .int .i64 y.ans, .int .i64 y.plc, .bool y.ow, .int .i64 y.word, .int .i64 y.gone, .int .i64 y.s0, .int .i64 y.s1, .int .i64 y.r0, .int .i64 y.r1, .int .i64 y.taken, .int .u8 y.last, .int .i64 y.run], .bool right, .bool keeps]) rfl (by kernel_rfl) (by kernel_rfl) (by kernel_rfl) (fun _ _ _ h => h) (Or.inl ⟨by rfl, by intro w hSw; (try dsimp only at hSw); go_simp⟩) (by assumption) ?_
                    simp only [Act.put, List.setIfInBounds_toArray, List.set_cons_zero, List.set_cons_succ]
                    refine wpAnyH_take (i := 8) (oi := { dst := some 49, op := .extract (.tmp 41) 0, type := 55, pos := _, after := _, guard := none }) (v := .agg #[.int .i64 y.sent, .int .i64 y.req, .int .i64 y.ans, .int .i64 y.plc, .bool y.ow, .int .i64 y.word, .int .i64 y.gone, .int .i64 y.s0, .int .i64 y.s1, .int .i64 y.r0, .int .i64 y.r1, .int .i64 y.taken, .int .u8 y.last, .int .i64 y.run]) rfl (by kernel_rfl) (by kernel_rfl) (by kernel_rfl) (fun _ _ _ h => h) (Or.inl ⟨by rfl, by intro w hSw; (try dsimp only at hSw); go_simp⟩) (by assumption) ?_
                    simp only [Act.put, List.setIfInBounds_toArray, List.set_cons_zero, List.set_cons_succ]
                    refine wpAnyH_take (i := 9) (oi := { dst := some 50, op := .extract (.tmp 41) 1, type := 4, pos := _, after := _, guard := none }) (v := .bool right) rfl (by kernel_rfl) (by kernel_rfl) (by kernel_rfl) (fun _ _ _ h => h) (Or.inl ⟨by rfl, by intro w hSw; (try dsimp only at hSw); go_simp⟩) (by assumption) ?_
                    simp only [Act.put, List.setIfInBounds_toArray, List.set_cons_zero, List.set_cons_succ]
                    refine wpAnyH_take (i := 10) (oi := { dst := some 51, op := .extract (.tmp 41) 2, type := 4, pos := _, after := _, guard := none }) (v := .bool keeps) rfl (by kernel_rfl) (by kernel_rfl) (by kernel_rfl) (fun _ _ _ h => h) (Or.inl ⟨by rfl, by intro w hSw; (try dsimp only at hSw); go_simp⟩) (by assumption) ?_
                    simp only [Act.put, List.setIfInBounds_toArray, List.set_cons_zero, List.set_cons_succ]
                    refine wpAnyH_ready (rs := [12]) (by kernel_rfl) (by simp) ?_
                    refine AllReadyH.cons (o := { dst := none, op := .store 55 (.tmp 13) (.tmp 49), type := 0, pos := _, after := _, guard := none }) rfl ?s5 ?m5
                    case m5 => with_reducible exact AllReadyH.nil
                    intro K hK
                    rw [if_pos (by rfl)]
                    refine wp_store_row 55 (.tmp 13) (.tmp 49) rfl wr.drew.heap.size #[.int .i64 y.sent, .int .i64 y.req, .int .i64 y.ans, .int .i64 y.plc, .bool y.ow, .int .i64 y.word, .int .i64 y.gone, .int .i64 y.s0, .int .i64 y.s1, .int .i64 y.r0, .int .i64 y.r1, .int .i64 y.taken, .int .u8 y.last, .int .i64 y.run] rfl rfl 55 _ A2.out (by kernel_rfl) (by first | rfl | kernel_rfl) (by first | rfl | kernel_rfl | simp [Value.oneCell']) ?_
                    obtain ⟨W9, hW9⟩ : ∃ W9, World.setRow v1 wr.drew.heap.size #[.int .i64 y.sent, .int .i64 y.req, .int .i64 y.ans, .int .i64 y.plc, .bool y.ow, .int .i64 y.word, .int .i64 y.gone, .int .i64 y.s0, .int .i64 y.s1, .int .i64 y.r0, .int .i64 y.r1, .int .i64 y.taken, .int .u8 y.last, .int .i64 y.run] = W9 := ⟨_, rfl⟩
                    rw [hW9]
                    have KB9 : KB wr.drew.heap.size v1 W9 := by rw [← hW9]; exact ⟨rfl, rfl, rfl, by simp, fun i hi hne => setRow_other _ _ i _ hne⟩
                    have BL9 : Below wr.drew.heap.size wr.drew W9 := KB.low KB9 BB.out (Nat.le_refl _)
                    have F3 := Aside0.mk (F0.out.below BL9)
                    have Q3 := Aside0.mk (blk_below Q0.out BL9)
                    have Y3 := Aside0.mk (show W9.heap[wr.drew.heap.size]? = some (boxN y) by rw [← hW9]; exact setRow_heap _ _ _ _ 55 (0, 0) A2.out)
                    clear hW9 KB9 BL9
                    refine hK.out _ _ ⟨OpenN.head F3.out.opn, F3.out.lb⟩ (fun hHeld => ?_)
                    clear hK K
                    refine wpAnyH_take (i := 13) (oi := { dst := some 14, op := .assign (.tmp 50), type := 4, pos := _, after := _, guard := none }) (v := .bool right) rfl (by kernel_rfl) (by kernel_rfl) (by kernel_rfl) (fun _ _ _ h => h) (Or.inl ⟨by rfl, by intro w hSw; (try dsimp only at hSw); go_simp⟩) (by assumption) ?_
                    simp only [Act.put, List.setIfInBounds_toArray, List.set_cons_zero, List.set_cons_succ]
                    refine wpAnyH_take (i := 14) (oi := { dst := some 15, op := .assign (.tmp 51), type := 4, pos := _, after := _, guard := none }) (v := .bool keeps) rfl (by kernel_rfl) (by kernel_rfl) (by kernel_rfl) (fun _ _ _ h => h) (Or.inl ⟨by rfl, by intro w hSw; (try dsimp only at hSw); go_simp⟩) (by assumption) ?_
                    simp only [Act.put, List.setIfInBounds_toArray, List.set_cons_zero, List.set_cons_succ]
                    refine wpAnyH_done (by kernel_rfl) ?_ _
                    go_wp2
                    go_meet
                    case rel => exact ⟨wr.drew.heap.size, rfl, rfl, rfl, ⟨F3.out⟩, ⟨Q3.out⟩, ⟨Y3.out⟩⟩
              case rest =>
                obtain ⟨gy, rfl, rfl, rfl, F4, Q4, Y4⟩ := hcut
                clear HI HL HA h0a
                have hA := HA1.out
                clear HA1
                cases keeps with
                | false =>
                  rw [if_neg (by decide)] at hA
                  have HA2 := Aside0.mk hA
                  clear hA
                  go_wp2
                  go_roundg (1 - 0)
                  case measure => omega
                  case rel => exact ⟨0 + 1, X, M, by omega, by first | rfl | go_num, HA2, F4, Q4⟩
                | true =>
                  rw [if_pos rfl] at hA
                  obtain ⟨od, hod⟩ : ∃ od, (lookN M h).getD ByteArray.empty = od := ⟨_, rfl⟩
                  rw [hod] at hA
                  by_cases d0 : (od ++ oneB 114).size ≤ 9223372036854775807 ∧ X.length < 1099511627776
                  · rw [if_pos d0] at hA
                    have HD0 := Aside0.mk d0
                    have hlk : (Instr.lookup 88 (.map (some bm)) (.agg #[.int .i64 h.sent, .int .i64 h.req, .int .i64 h.ans, .int .i64 h.plc, .bool h.ow, .int .i64 h.word, .int .i64 h.gone, .int .i64 h.s0, .int .i64 h.s1, .int .i64 h.r0, .int .i64 h.r1, .int .i64 h.taken, .int .u8 h.last, .int .i64 h.run]) false).run Try.prog wc = .ok (.string od) wc := by
                      have h_ := F4.out.map.look 88 9 Try.underlying88 (.string ByteArray.empty) (by kernel_rfl) h
                      rw [lookN_map (fun o => Value.string o), look_str, hod] at h_
                      exact h_
                    have hcv := convR wc
                    have hs1 : decide ((od ++ oneB 114).size ≤ 9223372036854775807) = true := decide_eq_true d0.1
                    have hs2 := hs1; (try simp only [ByteArray.size_append] at hs2); have hs3 := of_decide_eq_true hs2; have hs4 := eq_true hs3; have hs5 := eq_false (Nat.not_lt.2 hs3)
                    have h0a : (0 : Int) < (X.length : Int) + 1 := by omega
                    clear d0
                    have HA3 := Aside0.mk hA
                    clear hA
                    go_upto_region 14 with (first
                      | ((with_reducible refine gate_dst (N := 57) rfl ?_); refine load_mid_event rfl 55 (.tmp 56) rfl b5 o5 rfl #[.int .i64 h.sent, .int .i64 h.req, .int .i64 h.ans, .int .i64 h.plc, .bool h.ow, .int .i64 h.word, .int .i64 h.gone, .int .i64 h.s0, .int .i64 h.s1, .int .i64 h.r0, .int .i64 h.r1, .int .i64 h.taken, .int .u8 h.last, .int .i64 h.run] _ (OpenN.head F4.out.opn) HU.out rfl (by kernel_rfl) ?_))
                    clear hlk hcv hs1 hs2 hs3 hs4 hs5 h0a hod
                    go_upto_if 66 with (first
                      | ((with_reducible refine gate_dst (N := 64) rfl ?_); refine load_row_event rfl 55 (.tmp 13) rfl gy rfl 55 #[.int .i64 y.sent, .int .i64 y.req, .int .i64 y.ans, .int .i64 y.plc, .bool y.ow, .int .i64 y.word, .int .i64 y.gone, .int .i64 y.s0, .int .i64 y.s1, .int .i64 y.r0, .int .i64 y.r1, .int .i64 y.taken, .int .u8 y.last, .int .i64 y.run] _ Y4.out HU.out rfl (by kernel_rfl) ?_)
                      | (go_at_fn g; refine (HH.out y right _ F4.out.bel).mono ?_; rintro e w7 ⟨rfl, hb⟩; have F7 := Aside0.mk (F4.out.below hb); have Q7 := Aside0.mk (blk_below Q4.out hb); have Y7 := Aside0.mk (blk_below Y4.out hb); clear hb))
                    have hA := HA3.out
                    clear HA3 F4 Q4 Y4
                    by_cases c5 : hold y right = true
                    · rw [if_pos c5] at hA
                      rw [c5]
                      have hr := Option.some.inj hA
                      injection hr with e1 e2
                      subst e2
                      have HE1 := Aside0.mk e1
                      clear hA e1 c5
                      go_wp2
                      go_ret2
                      exact ⟨by first | rfl | (rw [← HE1.out]; rfl) | rw [HE1.out], F7.out.bel⟩
                    · rw [if_neg c5] at hA
                      have c5b : hold y right = false := Bool.eq_false_iff.2 c5
                      rw [c5b]
                      clear c5 c5b
                      obtain ⟨vv, hvv⟩ : ∃ vv, ((lookN (M.map (fun p => (p.1, Value.string p.2))) y).getD (.string ByteArray.empty)) = vv := ⟨_, rfl⟩
                      have hlk2 : (Instr.lookup 88 (.map (some bm)) (.agg #[.int .i64 y.sent, .int .i64 y.req, .int .i64 y.ans, .int .i64 y.plc, .bool y.ow, .int .i64 y.word, .int .i64 y.gone, .int .i64 y.s0, .int .i64 y.s1, .int .i64 y.r0, .int .i64 y.r1, .int .i64 y.taken, .int .u8 y.last, .int .i64 y.run]) true).run Try.prog w7 = .ok (.tuple #[vv, .bool (lookN M y).isSome]) w7 := by
                        have h_ := F7.out.map.look2 88 9 Try.underlying88 (.string ByteArray.empty) (by kernel_rfl) y
                        rw [hvv, lookN_map (fun o => Value.string o), Option.isSome_map] at h_
                        exact h_
                      clear hvv
                      cases c6 : (lookN M y).isSome with
                      | true =>
                        rw [c6] at hA hlk2
                        rw [if_neg (by simp)] at hA
                        have HA2 := Aside0.mk hA
                        clear hA c6
                        go_wp2_with (first
                          | ((with_reducible refine gate_dst (N := 70) rfl ?_); refine load_row_event rfl 55 (.tmp 13) rfl gy rfl 55 #[.int .i64 y.sent, .int .i64 y.req, .int .i64 y.ans, .int .i64 y.plc, .bool y.ow, .int .i64 y.word, .int .i64 y.gone, .int .i64 y.s0, .int .i64 y.s1, .int .i64 y.r0, .int .i64 y.r1, .int .i64 y.taken, .int .u8 y.last, .int .i64 y.run] _ Y7.out HU.out rfl (by kernel_rfl) ?_))
                        go_roundg (1 - 0)
                        case measure => omega
                        case rel => exact ⟨0 + 1, X, M, by omega, by first | rfl | go_num, HA2, F7, Q7⟩
                      | false =>
                        rw [c6] at hA hlk2
                        cases right with
                        | false =>
                          rw [if_neg (by simp)] at hA
                          have HA2 := Aside0.mk hA
                          clear hA c6
                          go_wp2_with (first
                            | ((with_reducible refine gate_dst (N := 70) rfl ?_); refine load_row_event rfl 55 (.tmp 13) rfl gy rfl 55 #[.int .i64 y.sent, .int .i64 y.req, .int .i64 y.ans, .int .i64 y.plc, .bool y.ow, .int .i64 y.word, .int .i64 y.gone, .int .i64 y.s0, .int .i64 y.s1, .int .i64 y.r0, .int .i64 y.r1, .int .i64 y.taken, .int .u8 y.last, .int .i64 y.run] _ Y7.out HU.out rfl (by kernel_rfl) ?_))
                          go_roundg (1 - 0)
                          case measure => omega
                          case rel => exact ⟨0 + 1, X, M, by omega, by first | rfl | go_num, HA2, F7, Q7⟩
                        | true =>
                          rw [if_pos (by simp)] at hA
                          have HA2 := Aside0.mk hA
                          clear hA c6
                          obtain ⟨w8, hup, hm8, hk8, hs8⟩ := F7.out.map.upd 88 9 Try.underlying88 y (.string (od ++ oneB 114))
                          have hup' : (Instr.mapUpdate 88 (.map (some bm)) (.agg #[.int .i64 y.sent, .int .i64 y.req, .int .i64 y.ans, .int .i64 y.plc, .bool y.ow, .int .i64 y.word, .int .i64 y.gone, .int .i64 y.s0, .int .i64 y.s1, .int .i64 y.r0, .int .i64 y.r1, .int .i64 y.taken, .int .u8 y.last, .int .i64 y.run]) (.string (od ++ oneB 114))).run Try.prog w7 = .ok () w8 := hup
                          rw [setN_map (fun o => Value.string o)] at hm8
                          have F8 := Aside0.mk (FI.told F7.out hk8 hm8 BM.out)
                          have Q8 := Aside0.mk (hk8.keep Q7.out (F7.out.map.ne Q7.out))
                          have Y8 := Aside0.mk (hk8.keep Y7.out (F7.out.map.ne Y7.out))
                          clear hup hm8 hk8 hs8
                          go_wp2_with (first
                            | ((with_reducible refine gate_dst (N := 70) rfl ?_); refine load_row_event rfl 55 (.tmp 13) rfl gy rfl 55 #[.int .i64 y.sent, .int .i64 y.req, .int .i64 y.ans, .int .i64 y.plc, .bool y.ow, .int .i64 y.word, .int .i64 y.gone, .int .i64 y.s0, .int .i64 y.s1, .int .i64 y.r0, .int .i64 y.r1, .int .i64 y.taken, .int .u8 y.last, .int .i64 y.run] _ Y7.out HU.out rfl (by kernel_rfl) ?_)
                            | ((with_reducible refine gate_dst (N := 80) rfl ?_); refine load_row_event rfl 55 (.tmp 13) rfl gy rfl 55 #[.int .i64 y.sent, .int .i64 y.req, .int .i64 y.ans, .int .i64 y.plc, .bool y.ow, .int .i64 y.word, .int .i64 y.gone, .int .i64 y.s0, .int .i64 y.s1, .int .i64 y.r0, .int .i64 y.r1, .int .i64 y.taken, .int .u8 y.last, .int .i64 y.run] _ Y7.out HU.out rfl (by kernel_rfl) ?_)
                            | ((with_reducible refine gate_dst (N := 83) rfl ?_); refine load_row_event rfl 55 (.tmp 13) rfl gy rfl 55 #[.int .i64 y.sent, .int .i64 y.req, .int .i64 y.ans, .int .i64 y.plc, .bool y.ow, .int .i64 y.word, .int .i64 y.gone, .int .i64 y.s0, .int .i64 y.s1, .int .i64 y.r0, .int .i64 y.r1, .int .i64 y.taken, .int .u8 y.last, .int .i64 y.run] _ Y8.out HU.out rfl (by kernel_rfl) ?_)
                            | ((with_reducible refine gate_builtin (b := .append) (xs := #[.tmp 82, .tmp 84]) rfl ?_); at_builtin; refine openN_append w.heap.size rfl (.tmp 82) (.tmp 84) 89 rfl Try.underlying89 (.slice (some ⟨b5, o5, none⟩) (X.length + 1) p5) (h :: X) y rfl rfl F8.out.opn F8.out.bel.size ?aL ?_; (case aL => have h_ := HD0.out.2; simp only [List.length_cons]; omega); intro va wa ho hk; have FA := Aside0.mk (FI.push F8.out ho hk); have QA := Aside0.mk (hk.keep Q8.out (fun e => by obtain ⟨_, _, c, hc⟩ := F8.out.opn.lt gq e; have h_ := Q8.out; rw [hc] at h_; cases h_)); clear ho hk))
                          go_roundg (1 - 0)
                          case measure => omega
                          case rel => exact ⟨0 + 1, X ++ [y], setN M y (od ++ oneB 114), by omega, by first | rfl | go_num, HA2, FA, QA⟩
                  · rw [if_neg d0] at hA; cases hA
            · skip
              have hA : ((afterN l 115 ratio h).bind fun p => if p.2.2 = true then if ((lookN M h).getD ByteArray.empty ++ oneB 115).size ≤ 9223372036854775807 ∧ X.length < 1099511627776 then if hold p.1 p.2.1 = true then some ((lookN M h).getD ByteArray.empty ++ oneB 115, true) else if (lookN M p.1).isSome = false ∧ p.2.1 = true then foLet l ratio hold h NX (([114, 115] : List Int).drop 2) (X ++ [p.1]) (setN M p.1 ((lookN M h).getD ByteArray.empty ++ oneB 115)) else foLet l ratio hold h NX (([114, 115] : List Int).drop 2) X M else none else foLet l ratio hold h NX (([114, 115] : List Int).drop 2) X M) = some (r1, r2) := HA.out
              obtain ⟨⟨y, right, keeps⟩, hy, hA⟩ := Option.bind_eq_some_iff.1 hA
              dsimp only at hA
              have HY := Aside0.mk hy
              have HA1 := Aside0.mk hA
              obtain ⟨b5, o5, p5, cur5, e5, -⟩ := HI.out.opn
              have e5' : u10 = .slice (some ⟨b5, o5, none⟩) (X.length + 1) p5 := e5
              subst e5'
              have h0a : (0 : Int) < (X.length : Int) + 1 := by omega
              have hcl : wr.cell? ⟨gq, 1, none⟩ = some (.int .u8 115) := (cell_of_row wr gq 1 _ 5 (2, 3) HL.out).trans rfl
              clear hy hA e5
              go_upto_region 11 with (fail)
              clear hcl
              go_cut [13, 14, 15] from 41 to 51 (fun v13 v14 v15 wc => ∃ gy, v13 = .pointer (some ⟨gy, 0, none⟩) ∧ v14 = .bool right ∧ v15 = .bool keeps ∧ Aside0 (FI w gl bm l (h :: X) M wc (.slice (some ⟨b5, o5, none⟩) (X.length + 1) p5)) ∧ Aside0 (wc.heap[gq]? = some (.cells #[.int .u8 114, .int .u8 115] 5 (2, 3))) ∧ Aside0 (wc.heap[gy]? = some (boxN y)))
              case first =>
                have F0 := Aside0.mk (HI.out.below (below_drew (Below.refl wr.heap.size wr)))
                have Q0 := Aside0.mk (show wr.drew.heap[gq]? = some (.cells #[.int .u8 114, .int .u8 115] 5 (2, 3)) from HL.out)
                refine wp_region_held_drew (S := fun w' => w'.rangeAt b5 o5 (cellsN h) ∧ w'.heap[gl]? = some (boxL l)) (by kernel_rfl) ⟨OpenN.head F0.out.opn, F0.out.lb⟩ (fun hHeld => ?_)
                refine wpAnyH_take (i := 0) (oi := { dst := some 42, op := .move (.tmp 10), type := 89, pos := _, after := _, guard := none }) (v := .slice (some ⟨b5, o5, none⟩) (X.length + 1) p5) rfl (by kernel_rfl) (by kernel_rfl) (by kernel_rfl) (fun _ _ _ h => h) (Or.inl ⟨by rfl, by intro w hSw; (try dsimp only at hSw); go_simp⟩) (by assumption) ?_
                simp only [Act.put, List.setIfInBounds_toArray, List.set_cons_zero, List.set_cons_succ]
                refine wpAnyH_take (i := 1) (oi := { dst := some 43, op := .indexAddr 89 (.tmp 42) (.const (.int .i64 0)), type := 0, pos := _, after := _, guard := none }) (v := .pointer (some ⟨b5, o5, none⟩)) rfl (by kernel_rfl) (by kernel_rfl) (by kernel_rfl) (fun _ _ _ h => h) (Or.inl ⟨by rfl, by intro w hSw; (try dsimp only at hSw); go_simp⟩) (by assumption) ?_
                simp only [Act.put, List.setIfInBounds_toArray, List.set_cons_zero, List.set_cons_succ]
                refine wpAnyH_take (i := 2) (oi := { dst := some 44, op := .load 55 (.tmp 43), type := 55, pos := _, after := _, guard := none }) (v := .agg #[.int .i64 h.sent, .int .i64 h.req, .int .i64 h.ans, .int .i64 h.plc, .bool h.ow, .int .i64 h.word, .int .i64 h.gone, .int .i64 h.s0, .int .i64 h.s1, .int .i64 h.r0, .int .i64 h.r1, .int .i64 h.taken, .int .u8 h.last, .int .i64 h.run]) rfl (by kernel_rfl) (by kernel_rfl) (by kernel_rfl) (fun _ _ _ h => h) (yieldsIf_load_mid (by rfl) 55 (.tmp 43) rfl b5 o5 rfl (cellsN h) _ (fun w h => h.1) HU.out rfl (by kernel_rfl)) (by assumption) ?_
                simp only [Act.put, List.setIfInBounds_toArray, List.set_cons_zero, List.set_cons_succ]
                refine wpAnyH_take (i := 3) (oi := { dst := some 45, op := .load 33 (.tmp 3), type := 33, pos := _, after := _, guard := none }) (v := .agg #[.int .i64 l.ph, .int .i64 l.sg, .int .i64 l.sk, .int .i64 l.wd]) rfl (by kernel_rfl) (by kernel_rfl) (by kernel_rfl) (fun _ _ _ h => h) (yields_load_row (by rfl) 33 (.tmp 3) rfl gl rfl 33 #[.int .i64 l.ph, .int .i64 l.sg, .int .i64 l.sk, .int .i64 l.wd] _ (fun w h => h.2) Try.underlying33 rfl (by kernel_rfl)) (by assumption) ?_
                simp only [Act.put, List.setIfInBounds_toArray, List.set_cons_zero, List.set_cons_succ]
                refine wpAnyH_take (i := 4) (oi := { dst := some 46, op := .move (.tmp 12), type := 5, pos := _, after := _, guard := none }) (v := .int .u8 115) rfl (by kernel_rfl) (by kernel_rfl) (by kernel_rfl) (fun _ _ _ h => h) (Or.inl ⟨by rfl, by intro w hSw; (try dsimp only at hSw); go_simp⟩) (by assumption) ?_
                simp only [Act.put, List.setIfInBounds_toArray, List.set_cons_zero, List.set_cons_succ]
                refine wpAnyH_take (i := 5) (oi := { dst := some 47, op := .move (.tmp 1), type := 2, pos := _, after := _, guard := none }) (v := .int .i64 ratio) rfl (by kernel_rfl) (by kernel_rfl) (by kernel_rfl) (fun _ _ _ h => h) (Or.inl ⟨by rfl, by intro w hSw; (try dsimp only at hSw); go_simp⟩) (by assumption) ?_
                simp only [Act.put, List.setIfInBounds_toArray, List.set_cons_zero, List.set_cons_succ]
                refine wpAnyH_ready (rs := [6, 11]) (by kernel_rfl) (by simp) ?_
                refine AllReadyH.cons (o := { dst := some 48, op := .call { callee := .value (.func 48), args := #[.tmp 44, .tmp 45, .tmp 46, .tmp 47], argTypes := #[55, 33, 5, 2] }, type := 90, pos := _, after := _, guard := none }) rfl ?s7 ?m7
                case s7 =>
                  intro K hK
                  rw [if_pos (by rfl)]
                  go_simp
                  go_at_call 48
                  (with_reducible refine (afterN.calls l 115 ratio h y right keeps _ HY.out).mono ?_)
                  rintro e v1 ⟨rfl, hb⟩
                  have F1 := Aside0.mk (F0.out.below hb)
                  have Q1 := Aside0.mk (blk_below Q0.out hb)
                  clear hb
                  refine hK.out _ _ ⟨OpenN.head F1.out.opn, F1.out.lb⟩ (fun hHeld => ?_)
                  clear hK K
                  refine wpAnyH_take (i := 7) (oi := { dst := some 41, op := .move (.tmp 48), type := 90, pos := _, after := _, guard := none }) (v := .tuple #[.agg #[.int .i64 y.sent, .int .i64 y.req, .int .i64 y.ans, .int .i64 y.plc, .bool y.ow, .int .i64 y.word, .int .i64 y.gone, .int .i64 y.s0, .int .i64 y.s1, .int .i64 y.r0, .int .i64 y.r1, .int .i64 y.taken, .int .u8 y.last, .int .i64 y.run], .bool right, .bool keeps]) rfl (by kernel_rfl) (by kernel_rfl) (by kernel_rfl) (fun _ _ _ h => h) (Or.inl ⟨by rfl, by intro w hSw; (try dsimp only at hSw); go_simp⟩) (by assumption) ?_
                  simp only [Act.put, List.setIfInBounds_toArray, List.set_cons_zero, List.set_cons_succ]
                  refine wpAnyH_take (i := 8) (oi := { dst := some 49, op := .extract (.tmp 41) 0, type := 55, pos := _, after := _, guard := none }) (v := .agg #[.int .i64 y.sent, .int .i64 y.req, .int .i64 y.ans, .int .i64 y.plc, .bool y.ow, .int .i64 y.word, .int .i64 y.gone, .int .i64 y.s0, .int .i64 y.s1, .int .i64 y.r0, .int .i64 y.r1, .int .i64 y.taken, .int .u8 y.last, .int .i64 y.run]) rfl (by kernel_rfl) (by kernel_rfl) (by kernel_rfl) (fun _ _ _ h => h) (Or.inl ⟨by rfl, by intro w hSw; (try dsimp only at hSw); go_simp⟩) (by assumption) ?_
                  simp only [Act.put, List.setIfInBounds_toArray, List.set_cons_zero, List.set_cons_succ]
                  refine wpAnyH_take (i := 9) (oi := { dst := some 50, op := .extract (.tmp 41) 1, type := 4, pos := _, after := _, guard := none }) (v := .bool right) rfl (by kernel_rfl) (by kernel_rfl) (by kernel_rfl) (fun _ _ _ h => h) (Or.inl ⟨by rfl, by intro w hSw; (try dsimp only at hSw); go_simp⟩) (by assumption) ?_
                  simp only [Act.put, List.setIfInBounds_toArray, List.set_cons_zero, List.set_cons_succ]
                  refine wpAnyH_take (i := 10) (oi := { dst := some 51, op := .extract (.tmp 41) 2, type := 4, pos := _, after := _, guard := none }) (v := .bool keeps) rfl (by kernel_rfl) (by kernel_rfl) (by kernel_rfl) (fun _ _ _ h => h) (Or.inl ⟨by rfl, by intro w hSw; (try dsimp only at hSw); go_simp⟩) (by assumption) ?_
                  simp only [Act.put, List.setIfInBounds_toArray, List.set_cons_zero, List.set_cons_succ]
                  refine wpAnyH_ready (rs := [11]) (by kernel_rfl) (by simp) ?_
                  refine AllReadyH.cons (o := { dst := some 13, op := .alloc 55, type := 0, pos := _, after := _, guard := none }) rfl ?s8 ?m8
                  case m8 => with_reducible exact AllReadyH.nil
                  intro K hK
                  rw [if_pos (by rfl)]
                  go_simp
                  have F2 := Aside0.mk (F1.out.below (below_alloc (Below.refl v1.heap.size v1) (.cells #[.int .i64 0, .int .i64 0, .int .i64 0, .int .i64 0, .bool false, .int .i64 0, .int .i64 0, .int .i64 0, .int .i64 0, .int .i64 0, .int .i64 0, .int .i64 0, .int .u8 0, .int .i64 0] 55 (0, 0))))
                  have A2 := Aside0.mk (blk_new v1 (.cells #[.int .i64 0, .int .i64 0, .int .i64 0, .int .i64 0, .bool false, .int .i64 0, .int .i64 0, .int .i64 0, .int .i64 0, .int .i64 0, .int .i64 0, .int .i64 0, .int .u8 0, .int .i64 0] 55 (0, 0)))
                  refine hK.out _ _ ⟨OpenN.head F2.out.opn, F2.out.lb⟩ (fun hHeld => ?_)
                  clear hK K
                  refine wpAnyH_ready (rs := [12]) (by kernel_rfl) (by simp) ?_
                  refine AllReadyH.cons (o := { dst := none, op := .store 55 (.tmp 13) (.tmp 49), type := 0, pos := _, after := _, guard := none }) rfl ?s9 ?m9
                  case m9 => with_reducible exact AllReadyH.nil
                  intro K hK
                  rw [if_pos (by rfl)]
                  refine wp_store_row 55 (.tmp 13) (.tmp 49) rfl v1.heap.size #[.int .i64 y.sent, .int .i64 y.req, .int .i64 y.ans, .int .i64 y.plc, .bool y.ow, .int .i64 y.word, .int .i64 y.gone, .int .i64 y.s0, .int .i64 y.s1, .int .i64 y.r0, .int .i64 y.r1, .int .i64 y.taken, .int .u8 y.last, .int .i64 y.run] rfl rfl 55 _ A2.out (by kernel_rfl) (by first | rfl | kernel_rfl) (by first | rfl | kernel_rfl | simp [Value.oneCell']) ?_
                  obtain ⟨W9, hW9⟩ : ∃ W9, World.setRow (v1.alloc (.cells #[.int .i64 0, .int .i64 0, .int .i64 0, .int .i64 0, .bool false, .int .i64 0, .int .i64 0, .int .i64 0, .int .i64 0, .int .i64 0, .int .i64 0, .int .i64 0, .int .u8 0, .int .i64 0] 55 (0, 0))) v1.heap.size #[.int .i64 y.sent, .int .i64 y.req, .int .i64 y.ans, .int .i64 y.plc, .bool y.ow, .int .i64 y.word, .int .i64 y.gone, .int .i64 y.s0, .int .i64 y.s1, .int .i64 y.r0, .int .i64 y.r1, .int .i64 y.taken, .int .u8 y.last, .int .i64 y.run] = W9 := ⟨_, rfl⟩
                  rw [hW9]
                  have KB9 : KB v1.heap.size (v1.alloc (.cells #[.int .i64 0, .int .i64 0, .int .i64 0, .int .i64 0, .bool false, .int .i64 0, .int .i64 0, .int .i64 0, .int .i64 0, .int .i64 0, .int .i64 0, .int .i64 0, .int .u8 0, .int .i64 0] 55 (0, 0))) W9 := by rw [← hW9]; exact ⟨rfl, rfl, rfl, by simp, fun i hi hne => setRow_other _ _ i _ hne⟩
                  have BL9 : Below v1.heap.size v1 W9 := KB.low KB9 (below_alloc (Below.refl _ _) _) (Nat.le_refl _)
                  have F3 := Aside0.mk (F1.out.below BL9)
                  have Q3 := Aside0.mk (blk_below Q1.out BL9)
                  have Y3 := Aside0.mk (show W9.heap[v1.heap.size]? = some (boxN y) by rw [← hW9]; exact setRow_heap _ _ _ _ 55 (0, 0) A2.out)
                  clear hW9 KB9 BL9
                  refine hK.out _ _ ⟨OpenN.head F3.out.opn, F3.out.lb⟩ (fun hHeld => ?_)
                  clear hK K
                  refine wpAnyH_take (i := 13) (oi := { dst := some 14, op := .assign (.tmp 50), type := 4, pos := _, after := _, guard := none }) (v := .bool right) rfl (by kernel_rfl) (by kernel_rfl) (by kernel_rfl) (fun _ _ _ h => h) (Or.inl ⟨by rfl, by intro w hSw; (try dsimp only at hSw); go_simp⟩) (by assumption) ?_
                  simp only [Act.put, List.setIfInBounds_toArray, List.set_cons_zero, List.set_cons_succ]
                  refine wpAnyH_take (i := 14) (oi := { dst := some 15, op := .assign (.tmp 51), type := 4, pos := _, after := _, guard := none }) (v := .bool keeps) rfl (by kernel_rfl) (by kernel_rfl) (by kernel_rfl) (fun _ _ _ h => h) (Or.inl ⟨by rfl, by intro w hSw; (try dsimp only at hSw); go_simp⟩) (by assumption) ?_
                  simp only [Act.put, List.setIfInBounds_toArray, List.set_cons_zero, List.set_cons_succ]
                  refine wpAnyH_done (by kernel_rfl) ?_ _
                  go_wp2
                  go_meet
                  case rel => exact ⟨v1.heap.size, rfl, rfl, rfl, ⟨F3.out⟩, ⟨Q3.out⟩, ⟨Y3.out⟩⟩
                case m7 =>
                  refine AllReadyH.cons (o := { dst := some 13, op := .alloc 55, type := 0, pos := _, after := _, guard := none }) rfl ?s12 ?m12
                  case m12 => with_reducible exact AllReadyH.nil
                  case s12 =>
                    intro K hK
                    rw [if_pos (by rfl)]
                    go_simp
                    obtain ⟨gy, hgy⟩ : ∃ gy, wr.drew.heap.size = gy := ⟨_, rfl⟩
                    have BA := Aside0.mk (show Below wr.drew.heap.size wr.drew (wr.drew.alloc (.cells #[.int .i64 0, .int .i64 0, .int .i64 0, .int .i64 0, .bool false, .int .i64 0, .int .i64 0, .int .i64 0, .int .i64 0, .int .i64 0, .int .i64 0, .int .i64 0, .int .u8 0, .int .i64 0] 55 (0, 0))) from below_alloc (Below.refl wr.drew.heap.size wr.drew) (.cells #[.int .i64 0, .int .i64 0, .int .i64 0, .int .i64 0, .bool false, .int .i64 0, .int .i64 0, .int .i64 0, .int .i64 0, .int .i64 0, .int .i64 0, .int .i64 0, .int .u8 0, .int .i64 0] 55 (0, 0)))
                    have F1 := Aside0.mk (F0.out.below BA.out)
                    have A1 := Aside0.mk (blk_new wr.drew (.cells #[.int .i64 0, .int .i64 0, .int .i64 0, .int .i64 0, .bool false, .int .i64 0, .int .i64 0, .int .i64 0, .int .i64 0, .int .i64 0, .int .i64 0, .int .i64 0, .int .u8 0, .int .i64 0] 55 (0, 0)))
                    refine hK.out _ _ ⟨OpenN.head F1.out.opn, F1.out.lb⟩ (fun hHeld => ?_)
                    clear hK K
                    refine wpAnyH_ready (rs := [6]) (by kernel_rfl) (by simp) ?_
                    refine AllReadyH.cons (o := { dst := some 48, op := .call { callee := .value (.func 48), args := #[.tmp 44, .tmp 45, .tmp 46, .tmp 47], argTypes := #[55, 33, 5, 2] }, type := 90, pos := _, after := _, guard := none }) rfl ?s10 ?m10
                    case m10 => with_reducible exact AllReadyH.nil
                    intro K hK
                    rw [if_pos (by rfl)]
                    go_simp
                    go_at_call 48
                    (with_reducible refine (afterN.calls l 115 ratio h y right keeps _ HY.out).mono ?_)
                    rintro e v1 ⟨rfl, hb⟩
                    have F2 := Aside0.mk (F1.out.below hb)
                    have BB := Aside0.mk (below_step BA.out hb)
                    have A2 := Aside0.mk (blk_below A1.out hb)
                    clear hb
                    refine hK.out _ _ ⟨OpenN.head F2.out.opn, F2.out.lb⟩ (fun hHeld => ?_)
                    clear hK K
                    refine wpAnyH_take (i := 7) (oi := { dst := some 41, op := .move (.tmp 48), type := 90, pos := _, after := _, guard := none }) (v := .tuple #[.agg #[.int .i64 y.sent, .int .i64 y.req, .int .i64 y.ans, .int .i64 y.plc, .bool y.ow, .int .i64 y.word, .int .i64 y.gone, .int .i64 y.s0, .int .i64 y.s1, .int .i64 y.r0, .int .i64 y.r1, .int .i64 y.taken, .int .u8 y.last, .int .i64 y.run], .bool right, .bool keeps]) rfl (by kernel_rfl) (by kernel_rfl) (by kernel_rfl) (fun _ _ _ h => h) (Or.inl ⟨by rfl, by intro w hSw; (try dsimp only at hSw); go_simp⟩) (by assumption) ?_
                    simp only [Act.put, List.setIfInBounds_toArray, List.set_cons_zero, List.set_cons_succ]
                    refine wpAnyH_take (i := 8) (oi := { dst := some 49, op := .extract (.tmp 41) 0, type := 55, pos := _, after := _, guard := none }) (v := .agg #[.int .i64 y.sent, .int .i64 y.req, .int .i64 y.ans, .int .i64 y.plc, .bool y.ow, .int .i64 y.word, .int .i64 y.gone, .int .i64 y.s0, .int .i64 y.s1, .int .i64 y.r0, .int .i64 y.r1, .int .i64 y.taken, .int .u8 y.last, .int .i64 y.run]) rfl (by kernel_rfl) (by kernel_rfl) (by kernel_rfl) (fun _ _ _ h => h) (Or.inl ⟨by rfl, by intro w hSw; (try dsimp only at hSw); go_simp⟩) (by assumption) ?_
                    simp only [Act.put, List.setIfInBounds_toArray, List.set_cons_zero, List.set_cons_succ]
                    refine wpAnyH_take (i := 9) (oi := { dst := some 50, op := .extract (.tmp 41) 1, type := 4, pos := _, after := _, guard := none }) (v := .bool right) rfl (by kernel_rfl) (by kernel_rfl) (by kernel_rfl) (fun _ _ _ h => h) (Or.inl ⟨by rfl, by intro w hSw; (try dsimp only at hSw); go_simp⟩) (by assumption) ?_
                    simp only [Act.put, List.setIfInBounds_toArray, List.set_cons_zero, List.set_cons_succ]
                    refine wpAnyH_take (i := 10) (oi := { dst := some 51, op := .extract (.tmp 41) 2, type := 4, pos := _, after := _, guard := none }) (v := .bool keeps) rfl (by kernel_rfl) (by kernel_rfl) (by kernel_rfl) (fun _ _ _ h => h) (Or.inl ⟨by rfl, by intro w hSw; (try dsimp only at hSw); go_simp⟩) (by assumption) ?_
                    simp only [Act.put, List.setIfInBounds_toArray, List.set_cons_zero, List.set_cons_succ]
                    refine wpAnyH_ready (rs := [12]) (by kernel_rfl) (by simp) ?_
                    refine AllReadyH.cons (o := { dst := none, op := .store 55 (.tmp 13) (.tmp 49), type := 0, pos := _, after := _, guard := none }) rfl ?s11 ?m11
                    case m11 => with_reducible exact AllReadyH.nil
                    intro K hK
                    rw [if_pos (by rfl)]
                    refine wp_store_row 55 (.tmp 13) (.tmp 49) rfl wr.drew.heap.size #[.int .i64 y.sent, .int .i64 y.req, .int .i64 y.ans, .int .i64 y.plc, .bool y.ow, .int .i64 y.word, .int .i64 y.gone, .int .i64 y.s0, .int .i64 y.s1, .int .i64 y.r0, .int .i64 y.r1, .int .i64 y.taken, .int .u8 y.last, .int .i64 y.run] rfl rfl 55 _ A2.out (by kernel_rfl) (by first | rfl | kernel_rfl) (by first | rfl | kernel_rfl | simp [Value.oneCell']) ?_
                    obtain ⟨W9, hW9⟩ : ∃ W9, World.setRow v1 wr.drew.heap.size #[.int .i64 y.sent, .int .i64 y.req, .int .i64 y.ans, .int .i64 y.plc, .bool y.ow, .int .i64 y.word, .int .i64 y.gone, .int .i64 y.s0, .int .i64 y.s1, .int .i64 y.r0, .int .i64 y.r1, .int .i64 y.taken, .int .u8 y.last, .int .i64 y.run] = W9 := ⟨_, rfl⟩
                    rw [hW9]
                    have KB9 : KB wr.drew.heap.size v1 W9 := by rw [← hW9]; exact ⟨rfl, rfl, rfl, by simp, fun i hi hne => setRow_other _ _ i _ hne⟩
                    have BL9 : Below wr.drew.heap.size wr.drew W9 := KB.low KB9 BB.out (Nat.le_refl _)
                    have F3 := Aside0.mk (F0.out.below BL9)
                    have Q3 := Aside0.mk (blk_below Q0.out BL9)
                    have Y3 := Aside0.mk (show W9.heap[wr.drew.heap.size]? = some (boxN y) by rw [← hW9]; exact setRow_heap _ _ _ _ 55 (0, 0) A2.out)
                    clear hW9 KB9 BL9
                    refine hK.out _ _ ⟨OpenN.head F3.out.opn, F3.out.lb⟩ (fun hHeld => ?_)
                    clear hK K
                    refine wpAnyH_take (i := 13) (oi := { dst := some 14, op := .assign (.tmp 50), type := 4, pos := _, after := _, guard := none }) (v := .bool right) rfl (by kernel_rfl) (by kernel_rfl) (by kernel_rfl) (fun _ _ _ h => h) (Or.inl ⟨by rfl, by intro w hSw; (try dsimp only at hSw); go_simp⟩) (by assumption) ?_
                    simp only [Act.put, List.setIfInBounds_toArray, List.set_cons_zero, List.set_cons_succ]
                    refine wpAnyH_take (i := 14) (oi := { dst := some 15, op := .assign (.tmp 51), type := 4, pos := _, after := _, guard := none }) (v := .bool keeps) rfl (by kernel_rfl) (by kernel_rfl) (by kernel_rfl) (fun _ _ _ h => h) (Or.inl ⟨by rfl, by intro w hSw; (try dsimp only at hSw); go_simp⟩) (by assumption) ?_
                    simp only [Act.put, List.setIfInBounds_toArray, List.set_cons_zero, List.set_cons_succ]
                    refine wpAnyH_done (by kernel_rfl) ?_ _
                    go_wp2
                    go_meet
                    case rel => exact ⟨wr.drew.heap.size, rfl, rfl, rfl, ⟨F3.out⟩, ⟨Q3.out⟩, ⟨Y3.out⟩⟩
              case rest =>
                obtain ⟨gy, rfl, rfl, rfl, F4, Q4, Y4⟩ := hcut
                clear HI HL HA h0a
                have hA := HA1.out
                clear HA1
                cases keeps with
                | false =>
                  rw [if_neg (by decide)] at hA
                  have HA2 := Aside0.mk hA
                  clear hA
                  go_wp2
                  go_roundg (1 - 1)
                  case measure => omega
                  case rel => exact ⟨1 + 1, X, M, by omega, by first | rfl | go_num, HA2, F4, Q4⟩
                | true =>
                  rw [if_pos rfl] at hA
                  obtain ⟨od, hod⟩ : ∃ od, (lookN M h).getD ByteArray.empty = od := ⟨_, rfl⟩
                  rw [hod] at hA
                  by_cases d0 : (od ++ oneB 115).size ≤ 9223372036854775807 ∧ X.length < 1099511627776
                  · rw [if_pos d0] at hA
                    have HD0 := Aside0.mk d0
                    have hlk : (Instr.lookup 88 (.map (some bm)) (.agg #[.int .i64 h.sent, .int .i64 h.req, .int .i64 h.ans, .int .i64 h.plc, .bool h.ow, .int .i64 h.word, .int .i64 h.gone, .int .i64 h.s0, .int .i64 h.s1, .int .i64 h.r0, .int .i64 h.r1, .int .i64 h.taken, .int .u8 h.last, .int .i64 h.run]) false).run Try.prog wc = .ok (.string od) wc := by
                      have h_ := F4.out.map.look 88 9 Try.underlying88 (.string ByteArray.empty) (by kernel_rfl) h
                      rw [lookN_map (fun o => Value.string o), look_str, hod] at h_
                      exact h_
                    have hcv := convS wc
                    have hs1 : decide ((od ++ oneB 115).size ≤ 9223372036854775807) = true := decide_eq_true d0.1
                    have hs2 := hs1; (try simp only [ByteArray.size_append] at hs2); have hs3 := of_decide_eq_true hs2; have hs4 := eq_true hs3; have hs5 := eq_false (Nat.not_lt.2 hs3)
                    have h0a : (0 : Int) < (X.length : Int) + 1 := by omega
                    clear d0
                    have HA3 := Aside0.mk hA
                    clear hA
                    go_upto_region 14 with (first
                      | ((with_reducible refine gate_dst (N := 57) rfl ?_); refine load_mid_event rfl 55 (.tmp 56) rfl b5 o5 rfl #[.int .i64 h.sent, .int .i64 h.req, .int .i64 h.ans, .int .i64 h.plc, .bool h.ow, .int .i64 h.word, .int .i64 h.gone, .int .i64 h.s0, .int .i64 h.s1, .int .i64 h.r0, .int .i64 h.r1, .int .i64 h.taken, .int .u8 h.last, .int .i64 h.run] _ (OpenN.head F4.out.opn) HU.out rfl (by kernel_rfl) ?_))
                    clear hlk hcv hs1 hs2 hs3 hs4 hs5 h0a hod
                    go_upto_if 66 with (first
                      | ((with_reducible refine gate_dst (N := 64) rfl ?_); refine load_row_event rfl 55 (.tmp 13) rfl gy rfl 55 #[.int .i64 y.sent, .int .i64 y.req, .int .i64 y.ans, .int .i64 y.plc, .bool y.ow, .int .i64 y.word, .int .i64 y.gone, .int .i64 y.s0, .int .i64 y.s1, .int .i64 y.r0, .int .i64 y.r1, .int .i64 y.taken, .int .u8 y.last, .int .i64 y.run] _ Y4.out HU.out rfl (by kernel_rfl) ?_)
                      | (go_at_fn g; refine (HH.out y right _ F4.out.bel).mono ?_; rintro e w7 ⟨rfl, hb⟩; have F7 := Aside0.mk (F4.out.below hb); have Q7 := Aside0.mk (blk_below Q4.out hb); have Y7 := Aside0.mk (blk_below Y4.out hb); clear hb))
                    have hA := HA3.out
                    clear HA3 F4 Q4 Y4
                    by_cases c5 : hold y right = true
                    · rw [if_pos c5] at hA
                      rw [c5]
                      have hr := Option.some.inj hA
                      injection hr with e1 e2
                      subst e2
                      have HE1 := Aside0.mk e1
                      clear hA e1 c5
                      go_wp2
                      go_ret2
                      exact ⟨by first | rfl | (rw [← HE1.out]; rfl) | rw [HE1.out], F7.out.bel⟩
                    · rw [if_neg c5] at hA
                      have c5b : hold y right = false := Bool.eq_false_iff.2 c5
                      rw [c5b]
                      clear c5 c5b
                      obtain ⟨vv, hvv⟩ : ∃ vv, ((lookN (M.map (fun p => (p.1, Value.string p.2))) y).getD (.string ByteArray.empty)) = vv := ⟨_, rfl⟩
                      have hlk2 : (Instr.lookup 88 (.map (some bm)) (.agg #[.int .i64 y.sent, .int .i64 y.req, .int .i64 y.ans, .int .i64 y.plc, .bool y.ow, .int .i64 y.word, .int .i64 y.gone, .int .i64 y.s0, .int .i64 y.s1, .int .i64 y.r0, .int .i64 y.r1, .int .i64 y.taken, .int .u8 y.last, .int .i64 y.run]) true).run Try.prog w7 = .ok (.tuple #[vv, .bool (lookN M y).isSome]) w7 := by
                        have h_ := F7.out.map.look2 88 9 Try.underlying88 (.string ByteArray.empty) (by kernel_rfl) y
                        rw [hvv, lookN_map (fun o => Value.string o), Option.isSome_map] at h_
                        exact h_
                      clear hvv
                      cases c6 : (lookN M y).isSome with
                      | true =>
                        rw [c6] at hA hlk2
                        rw [if_neg (by simp)] at hA
                        have HA2 := Aside0.mk hA
                        clear hA c6
                        go_wp2_with (first
                          | ((with_reducible refine gate_dst (N := 70) rfl ?_); refine load_row_event rfl 55 (.tmp 13) rfl gy rfl 55 #[.int .i64 y.sent, .int .i64 y.req, .int .i64 y.ans, .int .i64 y.plc, .bool y.ow, .int .i64 y.word, .int .i64 y.gone, .int .i64 y.s0, .int .i64 y.s1, .int .i64 y.r0, .int .i64 y.r1, .int .i64 y.taken, .int .u8 y.last, .int .i64 y.run] _ Y7.out HU.out rfl (by kernel_rfl) ?_))
                        go_roundg (1 - 1)
                        case measure => omega
                        case rel => exact ⟨1 + 1, X, M, by omega, by first | rfl | go_num, HA2, F7, Q7⟩
                      | false =>
                        rw [c6] at hA hlk2
                        cases right with
                        | false =>
                          rw [if_neg (by simp)] at hA
                          have HA2 := Aside0.mk hA
                          clear hA c6
                          go_wp2_with (first
                            | ((with_reducible refine gate_dst (N := 70) rfl ?_); refine load_row_event rfl 55 (.tmp 13) rfl gy rfl 55 #[.int .i64 y.sent, .int .i64 y.req, .int .i64 y.ans, .int .i64 y.plc, .bool y.ow, .int .i64 y.word, .int .i64 y.gone, .int .i64 y.s0, .int .i64 y.s1, .int .i64 y.r0, .int .i64 y.r1, .int .i64 y.taken, .int .u8 y.last, .int .i64 y.run] _ Y7.out HU.out rfl (by kernel_rfl) ?_))
                          go_roundg (1 - 1)
                          case measure => omega
                          case rel => exact ⟨1 + 1, X, M, by omega, by first | rfl | go_num, HA2, F7, Q7⟩
                        | true =>
                          rw [if_pos (by simp)] at hA
                          have HA2 := Aside0.mk hA
                          clear hA c6
                          obtain ⟨w8, hup, hm8, hk8, hs8⟩ := F7.out.map.upd 88 9 Try.underlying88 y (.string (od ++ oneB 115))
                          have hup' : (Instr.mapUpdate 88 (.map (some bm)) (.agg #[.int .i64 y.sent, .int .i64 y.req, .int .i64 y.ans, .int .i64 y.plc, .bool y.ow, .int .i64 y.word, .int .i64 y.gone, .int .i64 y.s0, .int .i64 y.s1, .int .i64 y.r0, .int .i64 y.r1, .int .i64 y.taken, .int .u8 y.last, .int .i64 y.run]) (.string (od ++ oneB 115))).run Try.prog w7 = .ok () w8 := hup
                          rw [setN_map (fun o => Value.string o)] at hm8
                          have F8 := Aside0.mk (FI.told F7.out hk8 hm8 BM.out)
                          have Q8 := Aside0.mk (hk8.keep Q7.out (F7.out.map.ne Q7.out))
                          have Y8 := Aside0.mk (hk8.keep Y7.out (F7.out.map.ne Y7.out))
                          clear hup hm8 hk8 hs8
                          go_wp2_with (first
                            | ((with_reducible refine gate_dst (N := 70) rfl ?_); refine load_row_event rfl 55 (.tmp 13) rfl gy rfl 55 #[.int .i64 y.sent, .int .i64 y.req, .int .i64 y.ans, .int .i64 y.plc, .bool y.ow, .int .i64 y.word, .int .i64 y.gone, .int .i64 y.s0, .int .i64 y.s1, .int .i64 y.r0, .int .i64 y.r1, .int .i64 y.taken, .int .u8 y.last, .int .i64 y.run] _ Y7.out HU.out rfl (by kernel_rfl) ?_)
                            | ((with_reducible refine gate_dst (N := 80) rfl ?_); refine load_row_event rfl 55 (.tmp 13) rfl gy rfl 55 #[.int .i64 y.sent, .int .i64 y.req, .int .i64 y.ans, .int .i64 y.plc, .bool y.ow, .int .i64 y.word, .int .i64 y.gone, .int .i64 y.s0, .int .i64 y.s1, .int .i64 y.r0, .int .i64 y.r1, .int .i64 y.taken, .int .u8 y.last, .int .i64 y.run] _ Y7.out HU.out rfl (by kernel_rfl) ?_)
                            | ((with_reducible refine gate_dst (N := 83) rfl ?_); refine load_row_event rfl 55 (.tmp 13) rfl gy rfl 55 #[.int .i64 y.sent, .int .i64 y.req, .int .i64 y.ans, .int .i64 y.plc, .bool y.ow, .int .i64 y.word, .int .i64 y.gone, .int .i64 y.s0, .int .i64 y.s1, .int .i64 y.r0, .int .i64 y.r1, .int .i64 y.taken, .int .u8 y.last, .int .i64 y.run] _ Y8.out HU.out rfl (by kernel_rfl) ?_)
                            | ((with_reducible refine gate_builtin (b := .append) (xs := #[.tmp 82, .tmp 84]) rfl ?_); at_builtin; refine openN_append w.heap.size rfl (.tmp 82) (.tmp 84) 89 rfl Try.underlying89 (.slice (some ⟨b5, o5, none⟩) (X.length + 1) p5) (h :: X) y rfl rfl F8.out.opn F8.out.bel.size ?aL ?_; (case aL => have h_ := HD0.out.2; simp only [List.length_cons]; omega); intro va wa ho hk; have FA := Aside0.mk (FI.push F8.out ho hk); have QA := Aside0.mk (hk.keep Q8.out (fun e => by obtain ⟨_, _, c, hc⟩ := F8.out.opn.lt gq e; have h_ := Q8.out; rw [hc] at h_; cases h_)); clear ho hk))
                          go_roundg (1 - 1)
                          case measure => omega
                          case rel => exact ⟨1 + 1, X ++ [y], setN M y (od ++ oneB 115), by omega, by first | rfl | go_num, HA2, FA, QA⟩
                  · rw [if_neg d0] at hA; cases hA
            · have hA := HA.out
              simp only [List.drop_succ_cons, List.drop_zero, List.drop_nil, foLet] at hA
              rw [← HNX.out] at hA
              have HA := Aside0.mk (show foRow l ratio hold k1 X M = some (r1, r2) from hA)
              have HO := Aside0.mk HI.out.opn
              obtain ⟨b6, o6, p6, cur6, e6, -, -, hn6, -⟩ := HI.out.opn
              have e6' : u10 = .slice (some ⟨b6, o6, none⟩) (X.length + 1) p6 := e6
              subst e6'
              have hn6' : X.length + 1 ≤ p6 := hn6
              have h1a : (1 : Int) ≤ ((X.length + 1 : Nat) : Int) := by omega
              have h1b : (1 : Int) ≤ (X.length : Int) + 1 := by omega
              have h1c : X.length + 1 ≥ 1 := by omega
              clear hA e6 hn6
              by_cases hp : p6 = 1
              · subst hp
                go_wp2
                have hx : X = [] := by cases X with | nil => rfl | cons => simp at hn6'
                subst hx
                go_roundg k1
                case measure => omega
                case rel => exact ⟨[], M, HA, ⟨by have := HK1.out; omega⟩, ⟨⟨OpenN.tail HO.out _ (.inl ⟨rfl, rfl⟩), HI.out.map, HI.out.lb, HI.out.bel⟩⟩⟩
              · have hp' : ¬ (p6 - 1 = 0) := by omega
                go_wp2
                go_roundg k1
                case measure => omega
                case rel => exact ⟨X, M, HA, ⟨by have := HK1.out; omega⟩, ⟨⟨OpenN.tail HO.out _ (.inr rfl), HI.out.map, HI.out.lb, HI.out.bel⟩⟩⟩
end Go.Proofs.Ytgmnbpdfdagniaa.A
