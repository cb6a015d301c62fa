/- The program's search for a queue's fault, walked. No conditions. -/
import Derived.Test.YtdgohcdemnmieaaDoorZ23
namespace Go.Proofs.YtdgohcdemnmieaaDoor.A
open Go.RowKit Go.Proofs.YtdgohcdemnmieaaDoorW.PrintWords Go.Proofs.YtdgohcdemnmieaaDoorW.PrintLast Go.Proofs.YtdgohcdemnmieaaDoorW.PrintMore
set_option linter.unusedVariables false
set_option linter.unusedSimpArgs false
set_option maxHeartbeats 6400000 in
set_option maxRecDepth 100000 in
theorem qfF.calls (K : Nat) (q0 q1 : Int) (r1 : ByteArray) (r2 : Bool) (w : World) (h : qfF K q0 q1 = some (r1, r2)) :
    Calls Tryd.prog 19 #[.agg #[.int .i64 q0, .int .i64 q1]] w fun e w' => e = .returned (.tuple #[.string r1, .bool r2]) ∧ Below w.heap.size w w' := by
  have hu26 := Tryd.underlying26
  have hu80 := Tryd.underlying46
  have hu84 := Tryd.underlying71
  have HQ := Aside0.mk (blk_new w (boxQ q0 q1))
  have HB := Aside0.mk (below_alloc (Below.refl w.heap.size w) (boxQ q0 q1))
  have H := Aside0.mk h
  clear h
  have hMM : (Instr.makeMap 68 none).run Tryd.prog (w.alloc (.cells #[.int .i64 q0, .int .i64 q1] 26 (0, 0))) = .ok (.map (some (w.heap.size + 1))) ((w.alloc (.cells #[.int .i64 q0, .int .i64 q1] 26 (0, 0))).alloc (.map #[] 0)) := by rw [run_makeMap, World.size_alloc]
  have hM1 : MapY ((w.alloc (.cells #[.int .i64 q0, .int .i64 q1] 26 (0, 0))).alloc (.map #[] 0)) (w.heap.size + 1) [] := ⟨#[], 0, by have h_ := blk_new (w.alloc (.cells #[.int .i64 q0, .int .i64 q1] 26 (0, 0))) (.map #[] 0); rw [World.size_alloc] at h_; exact h_, rfl⟩
  obtain ⟨w2, hup, hm2, hk2, -⟩ := hM1.upd z46 rfl
  have hup' : (Instr.mapUpdate 68 (.map (some (w.heap.size + 1))) (.agg #[.int .i64 0, .int .i64 0, .int .i64 0, .int .i64 0, .int .i64 0, .int .i64 0, .int .i64 0]) (.bool true)).run Tryd.prog ((w.alloc (.cells #[.int .i64 q0, .int .i64 q1] 26 (0, 0))).alloc (.map #[] 0)) = .ok () w2 := hup
  have HM2 := Aside0.mk hm2
  have HQ2 := Aside0.mk (hk2.keep (blk_alloc HQ.out (.map #[] 0)) (by omega))
  have HB2 := Aside0.mk (hk2.low (below_alloc HB.out (.map #[] 0)) (fun i e => by omega))
  clear hM1 hup hm2 hk2
  go_enter Tryd.func19, Tryd.ntmps19
  go_wp2_with (first
    | ((with_reducible refine gate_dst (N := 17) rfl ?_); refine Kd.R_lit k46 w.heap.size 46 ?hg (N := 17) ?hd (w0 := w) (xs := [z46]) (inner := [.int .i64 0, .int .i64 0, .int .i64 0, .int .i64 0, .int .i64 0, .int .i64 0, .int .i64 0]) (ok := fun _ => True) (okp := fun _ => True) ?hr ?hp (fun _ hk => hk) trivial HB2.out HB2.out.size (by simp) ?_; (case hd => rfl); (case hg => rfl); (case hr => first | (go_simp; done) | (go_simp; rfl)); (case hp => exact Reps.c7 (k46_mkM _ _ _ z46) (Reps.none _ _)); intro v3 w3 ho hb hg_ hnew_; obtain ⟨g3, p3, e3, -, -, -⟩ := Kd.R_form ho (by simp); have e3' : v3 = .slice (some ⟨g3, 0, none⟩) 1 p3 := e3; subst e3'; clear e3; have B3 := Aside0.mk hb; have O3 := Aside0.mk ho; have Q3 := Aside0.mk (blk_grown HQ2.out hg_ (by simp)); have M3 := Aside0.mk (HM2.out.below (Below.grown (Below.refl _ _) hg_ (Nat.le_refl _) (fun k e => by cases e))); clear ho hb hg_ hnew_))
  go_loopg [5] K (fun kq v5 wr => ∃ (G : List Grp) (seen : List S46), Aside0 (qfRow K q0 q1 kq (projG G) seen = some (r1, r2)) ∧ Aside0 (kq ≤ K) ∧ Aside0 (QI w w.heap.size (w.heap.size + 1) q0 q1 G seen wr v5 (fun _ => True)))
  case atStart =>
    refine ⟨[(ByteArray.empty, [z46], .slice (some ⟨g3, 0, none⟩) 1 p3)], [z46], H, ⟨Nat.le_refl _⟩, ⟨⟨⟨w3.heap.size, 0, 1, _, rfl, B3.out.size, blk_new w3 _, Nat.le_refl _, by simp [maxLen], by simp, rfl, rfl⟩, ?_, M3.out.below (below_alloc (Below.refl _ _) _), blk_alloc Q3.out _, below_alloc B3.out _⟩⟩⟩
    intro g hg
    simp only [List.mem_singleton] at hg
    subst hg
    exact Kd.R_alloc O3.out _
  case round =>
    obtain ⟨G, seen, HA, HK1, HI⟩ := hrel
    cases gk with
    | zero => exact absurd HA.out (by simp [qfRow])
    | succ k1 =>
      have hA := HA.out
      clear HA
      cases G with
      | nil =>
        simp only [projG, List.map_nil, qfRow] at hA
        have hr := Option.some.inj hA
        injection hr with e1 e2
        subst e1
        subst e2
        obtain ⟨b5, o5, p5, cur5, e5, -⟩ := HI.out.opn
        have e5' : u5 = .slice (some ⟨b5, o5, none⟩) 0 p5 := e5
        subst e5'
        clear e5 hA
        go_wp2
        go_ret2
        exact ⟨rfl, HI.out.bel⟩
      | cons g G =>
        obtain ⟨o, st, sv⟩ := g
        obtain ⟨As, ps, esv, hps, -⟩ := Kd.R_reads (HI.out.inn (o, st, sv) (List.mem_cons_self ..))
        have esv' : sv = .slice As st.length ps := esv
        subst esv'
        clear esv hps
        have hA2 : qfLet K q0 q1 o st (fun opn seen => qfRow K q0 q1 k1 opn.tail seen) [114, 115] (projG ((o, st, .slice As st.length ps) :: G)) seen = some (r1, r2) := hA
        obtain ⟨b5, o5, p5, cur5, e5, -⟩ := HI.out.opn
        obtain ⟨n5, hn5⟩ : ∃ n, ((o, st, .slice As st.length ps) :: G : List Grp).length = n := ⟨_, rfl⟩
        have hn0 : 0 < n5 := by rw [← hn5]; simp
        have hnb : decide ((0 : Int) < (n5 : Int)) = true := decide_eq_true (by omega)
        have hnc : decide (0 < n5) = true := decide_eq_true hn0
        rw [hn5] at e5
        subst e5
        have HN5 := Aside0.mk hn5
        have HA := Aside0.mk hA2
        clear hA hA2 hn5
        have hcv : (convert 22 22 (.slice (some ⟨wr.heap.size, 0, none⟩) 2 2)).run Tryd.prog (wr.alloc (.cells #[.int .u8 114, .int .u8 115] 5 (0, 0))) = .ok (.slice (some ⟨wr.heap.size, 0, none⟩) 2 2) (wr.alloc (.cells #[.int .u8 114, .int .u8 115] 5 (2, 3))) := Lib.run_convert_bytes_const wr 22 5 #[.int .u8 114, .int .u8 115] 2 2 Tryd.underlying22 Tryd.underlying5
        go_wp2
        clear hcv
        obtain ⟨NX, hNX⟩ : ∃ NX, (fun (opn : List (ByteArray × List S46)) seen => qfRow K q0 q1 k1 opn.tail seen) = NX := ⟨_, rfl⟩
        rw [hNX] at HA
        have HNX := Aside0.mk hNX
        obtain ⟨gl, hgl⟩ : ∃ gl, wr.heap.size = gl := ⟨_, rfl⟩
        have HI2 := Aside0.mk (HI.out.below (below_alloc (Below.refl _ _) (.cells #[.int .u8 114, .int .u8 115] 5 (2, 3))))
        have HGL := Aside0.mk (show gl ≥ w.heap.size by rw [← hgl]; exact HI.out.bel.size)
        have HL2 := Aside0.mk (show (wr.alloc (.cells #[.int .u8 114, .int .u8 115] 5 (2, 3))).heap[gl]? = some (.cells #[.int .u8 114, .int .u8 115] 5 (2, 3)) by rw [← hgl]; exact blk_new wr _)
        rw [hgl]
        clear hNX
        go_loopg [5, 28] 2 (fun kq v5 v28 wr => ∃ (i : Nat) (X : List Grp) (seen : List S46), i + kq = 2 ∧ v28 = .int .i64 (i : Int) ∧ Aside0 (qfLet K q0 q1 o st NX (([114, 115] : List Int).drop i) (projG ((o, st, .slice As st.length ps) :: X)) seen = some (r1, r2)) ∧ Aside0 (QI w w.heap.size (w.heap.size + 1) q0 q1 ((o, st, .slice As st.length ps) :: X) seen wr v5 (fun _ => True)) ∧ Aside0 (wr.heap[gl]? = some (.cells #[.int .u8 114, .int .u8 115] 5 (2, 3))))
        case atStart => exact ⟨0, G, seen, rfl, rfl, HA, HI2, HL2⟩
        case round =>
          clear HA HI HI2 HL2 hnb hnc hn0
          obtain ⟨i, X, seen, hik, rfl, HA, HI, HL⟩ := hrel
          rcases (show i = 0 ∨ i = 1 ∨ i = 2 by omega) with rfl | rfl | rfl
          · have hA : (if (o ++ oneB 114).size ≤ 9223372036854775807 ∧ (projG ((o, st, .slice As st.length ps) :: X)).length < 1099511627776 ∧ st.length < 1099511627776 then qfSt K q0 q1 114 (o ++ oneB 114) (fun (nst seen : List S46) => if nst.length = 0 then qfLet K q0 q1 o st NX [115] (projG ((o, st, .slice As st.length ps) :: X)) seen else qfLet K q0 q1 o st NX [115] (projG ((o, st, .slice As st.length ps) :: X) ++ [(o ++ oneB 114, nst)]) seen) st [] seen else none) = some (r1, r2) := HA.out
            by_cases d0 : (o ++ oneB 114).size ≤ 9223372036854775807 ∧ (projG ((o, st, .slice As st.length ps) :: X)).length < 1099511627776 ∧ st.length < 1099511627776
            · rw [if_pos d0] at hA
              obtain ⟨NX3, hNX3⟩ : ∃ NX3, (fun (nst seen : List S46) => if nst.length = 0 then qfLet K q0 q1 o st NX [115] (projG ((o, st, .slice As st.length ps) :: X)) seen else qfLet K q0 q1 o st NX [115] (projG ((o, st, .slice As st.length ps) :: X) ++ [(o ++ oneB 114, nst)]) seen) = NX3 := ⟨_, rfl⟩
              rw [hNX3] at hA
              have HNX3 := Aside0.mk hNX3
              have HA := Aside0.mk hA
              have HO := Aside0.mk HI.out.opn
              obtain ⟨b6, o6, p6, cur6, e6, -, -, hn6, -⟩ := HI.out.opn
              have e6' : u5 = .slice (some ⟨b6, o6, none⟩) (X.length + 1) p6 := e6
              subst e6'
              have hc0 := OpenIs.cell HO.out 0 (.string o) rfl
              have hc1 := OpenIs.cell HO.out 1 (.slice As st.length ps) rfl
              rw [Nat.add_zero] at hc0
              have HSV := Aside0.mk (HI.out.inn (o, st, .slice As st.length ps) (List.mem_cons_self ..))
              obtain ⟨OO, hOO⟩ : ∃ OO, o ++ oneB 114 = OO := ⟨_, rfl⟩
              have hcl : wr.cell? ⟨gl, 0, none⟩ = some (.int .u8 114) := (cell_of_row wr gl 0 _ 5 (2, 3) HL.out).trans rfl
              have hcv := convR wr
              have hs1 : decide ((o ++ oneB 114).size ≤ 9223372036854775807) = true := decide_eq_true d0.1
              have hs2 := hs1; (try simp only [ByteArray.size_append] at hs2); have hs3 := of_decide_eq_true hs2; have hs4 := eq_true hs3; have hs5 := eq_false (Nat.not_lt.2 hs3)
              have h0a : (0 : Int) < (X.length : Int) + 1 := by omega
              have hc2 : (wr.alloc (.cells #[.string OO, .slice none 0 0] 71 (0, 0))).cell? ⟨b6, o6 + 1, none⟩ = some (.slice As st.length ps) := ((below_alloc (Below.refl _ _) _).cell (World.block_lt_of_cell? _ _ hc1)).trans hc1
              have HD0 := Aside0.mk d0
              have hstb : st.length < 1099511627776 := d0.2.2
              clear hA hNX3 e6 hn6 d0
              go_wp2
              clear hc0 hc1 hc2 hcl hcv hs1 hs2 hs3 hs4 hs5 h0a
              obtain ⟨g8, hg8⟩ : ∃ g8, wr.heap.size = g8 := ⟨_, rfl⟩
              have HN4 := Aside0.mk (show QN w w.heap.size (w.heap.size + 1) q0 q1 ((o, st, .slice As st.length ps) :: X) seen (wr.alloc (.cells #[.string OO, .slice none 0 0] 71 (0, 0))) (.slice (some ⟨b6, o6, none⟩) (X.length + 1) p6) g8 gl OO [] (.slice none 0 0) from
                ⟨(HI.out.below (below_alloc (Below.refl _ _) _)).weak (fun i _ _ e => by cases e), Kd.R_nil _ _ _ _ _, by rw [← hg8]; exact blk_new wr _, fun k hk e => by have h_ := (HI.out.opn.lt k hk).1; omega, by rw [← hg8]; exact HI.out.bel.size, blk_alloc HL.out _⟩)
              rw [hg8]
              clear hg8 HO HSV
              have HA' := Aside0.mk (show qfSt K q0 q1 114 OO NX3 st [] seen = some (r1, r2) by rw [← hOO]; exact HA.out)
              have HNX3' := Aside0.mk (show (fun (nst seen : List S46) => if nst.length = 0 then qfLet K q0 q1 o st NX [115] (projG ((o, st, .slice As st.length ps) :: X)) seen else qfLet K q0 q1 o st NX [115] (projG ((o, st, .slice As st.length ps) :: X) ++ [(OO, nst)]) seen) = NX3 by rw [← hOO]; exact HNX3.out)
              clear HA HNX3 hOO HI HL
              go_loopw [46] (fun v46 wr4 => ∃ (j : Nat) (nst seen : List S46) (nv : Value), j ≤ st.length ∧ v46 = .int .i64 (j : Int) ∧ Aside0 (qfSt K q0 q1 114 OO NX3 (st.drop j) nst seen = some (r1, r2)) ∧ Aside0 (QN w w.heap.size (w.heap.size + 1) q0 q1 ((o, st, .slice As st.length ps) :: X) seen wr4 (.slice (some ⟨b6, o6, none⟩) (X.length + 1) p6) g8 gl OO nst nv)) (fun v46 _ => st.length - (intOf v46).toNat)
              case atStart => exact ⟨0, [], seen, .slice none 0 0, Nat.zero_le _, rfl, HA', HN4⟩
              case round =>
                clear HA' HN4
                obtain ⟨j, nst, seen, nv, hj, rfl, HA4, HN4⟩ := hrel
                by_cases hjl : j < st.length
                · have hjb : decide ((j : Int) < (st.length : Int)) = true := decide_eq_true (by omega)
                  have hj0 : (0 : Int) ≤ (j : Int) := by omega
                  have hj1 : (j : Int) < (st.length : Int) := by omega
                  have hsv := HN4.out.qi.inn (o, st, .slice As st.length ps) (List.mem_cons_self ..)
                  obtain ⟨-, -, hCs⟩ := Kd.R_reads' hsv
                  obtain ⟨ad, rfl, hx0, hx1, hx2, hx3, hx4, hx5, hx6⟩ := at_T46 hCs (j : Int) hj0 hj1
                  obtain ⟨x, hx⟩ : ∃ x, rd_T46 st (j : Int) = x := ⟨_, rfl⟩
                  rw [hx, Int.toNat_natCast] at hx0 hx1 hx2 hx3 hx4 hx5 hx6
                  have hdr : st.drop j = x :: st.drop (j + 1) := by rw [List.drop_eq_getElem_cons hjl, ← hx]; simp [rd_T46, hjl]
                  have hA := HA4.out
                  rw [hdr] at hA
                  simp only [qfSt] at hA
                  replace hA := Option.bind_eq_some_iff.1 hA
                  obtain ⟨l, hl, hA⟩ := hA
                  by_cases dl : l.length < 1099511627776
                  · rw [if_pos dl] at hA
                    obtain ⟨NX4, hNX4⟩ : ∃ NX4, (fun (nst seen : List S46) => qfSt K q0 q1 114 OO NX3 (st.drop (j + 1)) nst seen) = NX4 := ⟨_, rfl⟩
                    rw [hNX4] at hA
                    have HNX4 := Aside0.mk hNX4
                    have HAF := Aside0.mk hl
                    have HA6 := Aside0.mk hA
                    obtain ⟨zq0, zq1⟩ := qq_cells (blk_alloc HN4.out.qi.q (boxY x))
                    unfold boxY at zq0 zq1
                    have HJL := Aside0.mk hjl
                    clear hsv hCs hx hdr hA hl hNX4 hjl
                    go_wp2_with (first
                      | (go_at_call 31; (with_reducible refine (afterF.calls K q0 q1 x 114 l _ HAF.out).mono ?_); rintro e w5 ⟨va, rfl, hRa, hBa⟩; obtain ⟨Aa, pa, eva, hpa, -⟩ := Kd.R_reads hRa; subst eva; have HN5 := Aside0.mk (HN4.out.below (below_step (below_alloc (Below.refl _ _) (boxY x)) hBa)); have RA6 := Aside0.mk (show k46.R 46 w5 w.heap.size (fun k => nv.ownBlock ≠ some k) (.slice Aa l.length pa) l from Kd.R_lower (Kd.R_mono (Kd.R_bound hRa) (fun k hk e => by have h1_ := (Kd.R_lt HN4.out.nx k e); have h2_ := hk.2.1; rw [World.size_alloc] at h2_; omega)) (by rw [World.size_alloc]; have := HN4.out.qi.bel.size; omega)); clear hRa hBa hpa))
                    clear hx0 hx1 hx2 hx3 hx4 hx5 hx6 zq0 zq1
                    go_loopw [55] (fun v55 wr6 => ∃ (i6 : Nat) (nst seen : List S46) (nv : Value), i6 ≤ l.length ∧ v55 = .int .i64 (i6 : Int) ∧ Aside0 (qfOwn q0 OO NX4 (l.drop i6) nst seen = some (r1, r2)) ∧ Aside0 (QN w w.heap.size (w.heap.size + 1) q0 q1 ((o, st, .slice (some ad) st.length ps) :: X) seen wr6 (.slice (some ⟨b6, o6, none⟩) (X.length + 1) p6) g8 gl OO nst nv) ∧ Aside0 (k46.R 46 wr6 w.heap.size (fun k => nv.ownBlock ≠ some k) (.slice Aa l.length pa) l)) (fun v55 _ => l.length - (intOf v55).toNat)
                    case atStart => exact ⟨0, nst, seen, nv, Nat.zero_le _, rfl, HA6, HN5, RA6⟩
                    case round =>
                      clear HA6 HN5 HA4 HN4 RA6
                      obtain ⟨i6, nst, seen, nv, hi6, rfl, HA7, HN7, RA7⟩ := hrel
                      by_cases hil : i6 < l.length
                      · have hib : decide ((i6 : Int) < (l.length : Int)) = true := decide_eq_true (by omega)
                        have hi0 : (0 : Int) ≤ (i6 : Int) := by omega
                        have hi1 : (i6 : Int) < (l.length : Int) := by omega
                        obtain ⟨-, -, hCa⟩ := Kd.R_reads' RA7.out
                        obtain ⟨ae, rfl, hy0, hy1, hy2, hy3, hy4, hy5, hy6⟩ := at_T46 hCa (i6 : Int) hi0 hi1
                        obtain ⟨y, hy⟩ : ∃ y, rd_T46 l (i6 : Int) = y := ⟨_, rfl⟩
                        rw [hy, Int.toNat_natCast] at hy0 hy1 hy2 hy3 hy4 hy5 hy6
                        have hdl : l.drop i6 = y :: l.drop (i6 + 1) := by rw [List.drop_eq_getElem_cons hil, ← hy]; simp [rd_T46, hil]
                        have hA := HA7.out
                        rw [hdl] at hA
                        simp only [qfOwn] at hA
                        obtain ⟨An, pn, env, hpn, -⟩ := Kd.R_reads HN7.out.nx
                        have env' : nv = .slice An nst.length pn := env
                        subst env'
                        have HN8 := Aside0.mk (HN7.out.below (below_alloc (Below.refl _ _) (boxY y)))
                        have HY8 := Aside0.mk (blk_new wr (boxY y))
                        have RA8 := Aside0.mk (Kd.R_alloc RA7.out (boxY y))
                        obtain ⟨zq0, zq1⟩ := qq_cells HN8.out.qi.q
                        unfold boxY at zq0 zq1
                        by_cases dr : 0 ≤ y.f6 ∧ y.f6 ≤ q0
                        · rw [if_pos dr] at hA
                          have HI := Aside0.mk ((within_is' y.f6 0 q0).trans (by rw [decide_eq_true dr] : _ = some true))
                          by_cases ds : seen.any (sameY y) = true
                          · rw [if_pos ds] at hA
                            have HDS := Aside0.mk ds
                            have HA := Aside0.mk hA
                            clear hA hdl hy hCa dr env hpn ds hil
                            go_wp2_with (first
                              | (go_at_call 20; (with_reducible refine (impl_within.calls y.f6 0 q0 true _ HI.out).mono ?_); rintro e wi ⟨rfl, hD⟩; have HN9 := Aside0.mk (HN8.out.below (w' := wi) (by obtain ⟨m, rfl⟩ := hD; exact pw_below_drewN (Below.refl _ _) m)); have HY9 := Aside0.mk (show wi.heap[wr.heap.size]? = some (boxY y) by obtain ⟨m, rfl⟩ := hD; exact HY8.out); have RA9 := Aside0.mk (show k46.R 46 wi w.heap.size (fun k => (Value.slice An nst.length pn).ownBlock ≠ some k) (.slice (some ae) l.length pa) l by obtain ⟨m, rfl⟩ := hD; exact Kd.R_drewN RA8.out m); clear hD; obtain ⟨x0, x1, x2, x3, x4, x5, x6⟩ := y_cells HY9.out; have hlk : (Instr.lookup 68 (.map (some (w.heap.size + 1))) (.agg #[.int .i64 y.f0, .int .i64 y.f1, .int .i64 y.f2, .int .i64 y.f3, .int .i64 y.f4, .int .i64 y.f5, .int .i64 y.f6]) false).run Tryd.prog wi = .ok (.bool true) wi := by have h_ := HN9.out.qi.map.look y; rw [HDS.out] at h_; exact h_))
                            exact ⟨⟨i6 + 1, nst, seen, _, by omega, by go_num, HA, HN9, RA9⟩, by simp [intOf]; omega⟩
                          · rw [if_neg ds] at hA
                            by_cases dn : nst.length < 1099511627776
                            · rw [if_pos dn] at hA
                              have HDS := Aside0.mk (show seen.any (sameY y) = false by simpa using ds)
                              have HDN := Aside0.mk dn
                              have HA := Aside0.mk hA
                              clear hA hdl hy hCa dr env hpn ds dn hil
                              go_wp2_with (first
                                | (go_at_call 20; (with_reducible refine (impl_within.calls y.f6 0 q0 true _ HI.out).mono ?_); rintro e wi ⟨rfl, hD⟩; have HN9 := Aside0.mk (HN8.out.below (w' := wi) (by obtain ⟨m, rfl⟩ := hD; exact pw_below_drewN (Below.refl _ _) m)); have HY9 := Aside0.mk (show wi.heap[wr.heap.size]? = some (boxY y) by obtain ⟨m, rfl⟩ := hD; exact HY8.out); have RA9 := Aside0.mk (show k46.R 46 wi w.heap.size (fun k => (Value.slice An nst.length pn).ownBlock ≠ some k) (.slice (some ae) l.length pa) l by obtain ⟨m, rfl⟩ := hD; exact Kd.R_drewN RA8.out m); clear hD; obtain ⟨x0, x1, x2, x3, x4, x5, x6⟩ := y_cells HY9.out; have hlk : (Instr.lookup 68 (.map (some (w.heap.size + 1))) (.agg #[.int .i64 y.f0, .int .i64 y.f1, .int .i64 y.f2, .int .i64 y.f3, .int .i64 y.f4, .int .i64 y.f5, .int .i64 y.f6]) false).run Tryd.prog wi = .ok (.bool false) wi := (by have h_ := HN9.out.qi.map.look y; rw [HDS.out] at h_; exact h_); obtain ⟨w7, hup, hm7, hk7, hs7⟩ := HN9.out.qi.map.upd y HDS.out; have hup' : (Instr.mapUpdate 68 (.map (some (w.heap.size + 1))) (.agg #[.int .i64 y.f0, .int .i64 y.f1, .int .i64 y.f2, .int .i64 y.f3, .int .i64 y.f4, .int .i64 y.f5, .int .i64 y.f6]) (.bool true)).run Tryd.prog wi = .ok () w7 := hup; have HN10 := Aside0.mk (HN9.out.told hk7 hm7 (by omega)); have HY10 := Aside0.mk (hk7.keep HY9.out (HN9.out.qi.map.ne HY9.out)); have RA10 := Aside0.mk (R80.keep RA9.out hk7 (fun i cells hc _ => HN9.out.qi.map.ne hc)); have hb0 := (blk_cell HN10.out.bx 1).trans rfl; obtain ⟨m0, m1, m2, m3, m4, m5, m6⟩ := y_cells HY10.out; clear hup hm7 hk7 hs7)
                                | ((with_reducible refine gate_builtin (b := .append) (xs := #[.tmp 74, .tmp 76]) rfl ?_); at_builtin; refine Kd.R_append k46 (w0 := w) w.heap.size rfl (.tmp 74) (.tmp 76) 69 46 (.agg #[.int .i64 0, .int .i64 0, .int .i64 0, .int .i64 0, .int .i64 0, .int .i64 0, .int .i64 0]) 56 rfl Tryd.underlying69 info46 rfl (by decide) (by omega) (.slice An nst.length pn) nst y [.int .i64 y.f0, .int .i64 y.f1, .int .i64 y.f2, .int .i64 y.f3, .int .i64 y.f4, .int .i64 y.f5, .int .i64 y.f6] (fun _ => True) (fun _ => False) rfl rfl ?aP (fun _ hk => hk.elim) ?aF ?aO ?aB ?aS ?aL ?_; (case aP => exact k46_mkM _ _ _ y); (case aF => exact (fun _ _ => trivial)); (case aO => exact HN10.out.nx); (case aB => exact HN10.out.qi.bel); (case aS => exact HN10.out.qi.bel.size); (case aL => have := HDN.out; omega); intro v8 w8 ho hb hg hat; obtain ⟨A8, p8, e8, -, -⟩ := Kd.R_reads ho; have e8' : v8 = .slice A8 (nst.length + 1) p8 := (by rw [List.length_append] at e8; exact e8); subst e8'; clear e8; have HN11 := Aside0.mk (QN.more HN10.out ho hb hg hat); have bx8 := Aside0.mk (blk_grown HN10.out.bx hg (Kd.R_ne HN10.out.nx HN10.out.bx (by decide))); have RA11 := Aside0.mk (RA.more HN10.out RA10.out ho hb hg hat); have hc8 := (blk_cell bx8.out 1).trans rfl; have hf8 := blk_frozen bx8.out 1; clear ho hb hg hat))
                              exact ⟨⟨i6 + 1, nst ++ [y], seen ++ [y], _, by omega, by go_num, HA, HN11, RA11⟩, by simp [intOf]; omega⟩
                            · rw [if_neg dn] at hA; cases hA
                        · rw [if_neg dr] at hA
                          have HI := Aside0.mk ((within_is' y.f6 0 q0).trans (by rw [decide_eq_false dr] : _ = some false))
                          have hr := Option.some.inj hA
                          injection hr with e1 e2
                          subst e2
                          have HE1 := Aside0.mk e1
                          clear hA hdl hy hCa hil dr env hpn e1
                          go_wp2_with (first
                            | (go_at_call 20; (with_reducible refine (impl_within.calls y.f6 0 q0 false _ HI.out).mono ?_); rintro e wi ⟨rfl, hD⟩; have HN9 := Aside0.mk (HN8.out.below (w' := wi) (by obtain ⟨m, rfl⟩ := hD; exact pw_below_drewN (Below.refl _ _) m)); clear hD; have hb0 := (blk_cell HN9.out.bx 0).trans rfl))
                          go_ret2
                          exact ⟨by first | rfl | (rw [← HE1.out]; rfl) | rw [HE1.out], HN9.out.qi.bel⟩
                      · have hib : decide ((i6 : Int) < (l.length : Int)) = false := decide_eq_false (by omega)
                        obtain rfl : i6 = l.length := by omega
                        have hA := HA7.out
                        rw [List.drop_length] at hA
                        simp only [qfOwn] at hA
                        rw [← HNX4.out] at hA
                        dsimp only at hA
                        have HA8 := Aside0.mk hA
                        clear hA
                        go_wp2
                        exact ⟨⟨j + 1, nst, seen, nv, by have := HJL.out; omega, by go_num, HA8, HN7⟩, by simp [intOf]; have := HJL.out; omega⟩
                  · rw [if_neg dl] at hA; cases hA
                · have hjb : decide ((j : Int) < (st.length : Int)) = false := decide_eq_false (by omega)
                  obtain rfl : j = st.length := by omega
                  have hA := HA4.out
                  rw [List.drop_length] at hA
                  simp only [qfSt] at hA
                  rw [← HNX3'.out] at hA
                  dsimp only at hA
                  obtain ⟨An, pn, env, hpn, -⟩ := Kd.R_reads HN4.out.nx
                  have env' : nv = .slice An nst.length pn := env
                  subst env'
                  have hb0 := (blk_cell HN4.out.bx 0).trans rfl
                  have hb1 : wr.cell? ⟨g8, 1, none⟩ = some (.slice An nst.length pn) := (blk_cell HN4.out.bx 1).trans rfl
                  have hb2 : wr.cell? ⟨g8, 0, none⟩ = some (.string OO) := (blk_cell HN4.out.bx 0).trans rfl
                  clear hb0
                  by_cases dn : nst.length = 0
                  · rw [if_pos dn] at hA
                    have hdn : decide ((0 : Int) < (nst.length : Int)) = false := decide_eq_false (by omega)
                    have hdn2 : decide (0 < nst.length) = false := decide_eq_false (by omega)
                    have HA8 := Aside0.mk hA
                    clear hA dn env hpn hjl
                    go_wp2
                    go_roundg (1 - 0)
                    case measure => omega
                    case rel => exact ⟨0 + 1, X, seen, by omega, by first | rfl | go_num, HA8, ⟨HN4.out.qi.weak (fun _ _ _ => trivial)⟩, ⟨HN4.out.ll⟩⟩
                  · rw [if_neg dn] at hA
                    have hdn : decide ((0 : Int) < (nst.length : Int)) = true := decide_eq_true (by omega)
                    have hdn2 : decide (0 < nst.length) = true := decide_eq_true (by omega)
                    have HA8 := Aside0.mk hA
                    clear hA dn env hpn hjl
                    go_wp2_with (first
                      | ((with_reducible refine gate_builtin (b := .append) (xs := #[.tmp 85, .tmp 87]) rfl ?_); at_builtin; refine open_append w.heap.size rfl (.tmp 85) (.tmp 87) 72 71 (.agg #[.string ByteArray.empty, .slice none 0 0]) 40 rfl Tryd.underlying72 info71 rfl (by decide) (.slice (some ⟨b6, o6, none⟩) (X.length + 1) p6) (cellsG ((o, st, .slice As st.length ps) :: X)) (X.length + 1) (.string OO) (.slice An nst.length pn) ⟨rfl, rfl⟩ rfl rfl HN4.out.qi.opn HN4.out.qi.bel.size ?aL ?_; (case aL => have h_ := HD0.out.2.1; simp [projG] at h_; omega); intro v1 w1 ho hk; have HP := Aside0.mk (QN.push HN4.out ho hk); clear ho hk))
                    go_roundg (1 - 0)
                    case measure => omega
                    case rel => exact ⟨0 + 1, X ++ [(OO, nst, Value.slice An nst.length pn)], seen, by omega, by first | rfl | go_num, ⟨by have h_ := HA8.out; simpa [projG] using h_⟩, ⟨by have h_ := HP.out.1; rw [List.cons_append] at h_; exact h_⟩, ⟨HP.out.2⟩⟩
            · rw [if_neg d0] at hA; cases hA
          · have hA : (if (o ++ oneB 115).size ≤ 9223372036854775807 ∧ (projG ((o, st, .slice As st.length ps) :: X)).length < 1099511627776 ∧ st.length < 1099511627776 then qfSt K q0 q1 115 (o ++ oneB 115) (fun (nst seen : List S46) => if nst.length = 0 then qfLet K q0 q1 o st NX [] (projG ((o, st, .slice As st.length ps) :: X)) seen else qfLet K q0 q1 o st NX [] (projG ((o, st, .slice As st.length ps) :: X) ++ [(o ++ oneB 115, nst)]) seen) st [] seen else none) = some (r1, r2) := HA.out
            by_cases d0 : (o ++ oneB 115).size ≤ 9223372036854775807 ∧ (projG ((o, st, .slice As st.length ps) :: X)).length < 1099511627776 ∧ st.length < 1099511627776
            · rw [if_pos d0] at hA
              obtain ⟨NX3, hNX3⟩ : ∃ NX3, (fun (nst seen : List S46) => if nst.length = 0 then qfLet K q0 q1 o st NX [] (projG ((o, st, .slice As st.length ps) :: X)) seen else qfLet K q0 q1 o st NX [] (projG ((o, st, .slice As st.length ps) :: X) ++ [(o ++ oneB 115, nst)]) seen) = NX3 := ⟨_, rfl⟩
              rw [hNX3] at hA
              have HNX3 := Aside0.mk hNX3
              have HA := Aside0.mk hA
              have HO := Aside0.mk HI.out.opn
              obtain ⟨b6, o6, p6, cur6, e6, -, -, hn6, -⟩ := HI.out.opn
              have e6' : u5 = .slice (some ⟨b6, o6, none⟩) (X.length + 1) p6 := e6
              subst e6'
              have hc0 := OpenIs.cell HO.out 0 (.string o) rfl
              have hc1 := OpenIs.cell HO.out 1 (.slice As st.length ps) rfl
              rw [Nat.add_zero] at hc0
              have HSV := Aside0.mk (HI.out.inn (o, st, .slice As st.length ps) (List.mem_cons_self ..))
              obtain ⟨OO, hOO⟩ : ∃ OO, o ++ oneB 115 = OO := ⟨_, rfl⟩
              have hcl : wr.cell? ⟨gl, 1, none⟩ = some (.int .u8 115) := (cell_of_row wr gl 1 _ 5 (2, 3) HL.out).trans rfl
              have hcv := convS wr
              have hs1 : decide ((o ++ oneB 115).size ≤ 9223372036854775807) = true := decide_eq_true d0.1
              have hs2 := hs1; (try simp only [ByteArray.size_append] at hs2); have hs3 := of_decide_eq_true hs2; have hs4 := eq_true hs3; have hs5 := eq_false (Nat.not_lt.2 hs3)
              have h0a : (0 : Int) < (X.length : Int) + 1 := by omega
              have hc2 : (wr.alloc (.cells #[.string OO, .slice none 0 0] 71 (0, 0))).cell? ⟨b6, o6 + 1, none⟩ = some (.slice As st.length ps) := ((below_alloc (Below.refl _ _) _).cell (World.block_lt_of_cell? _ _ hc1)).trans hc1
              have HD0 := Aside0.mk d0
              have hstb : st.length < 1099511627776 := d0.2.2
              clear hA hNX3 e6 hn6 d0
              go_wp2
              clear hc0 hc1 hc2 hcl hcv hs1 hs2 hs3 hs4 hs5 h0a
              obtain ⟨g8, hg8⟩ : ∃ g8, wr.heap.size = g8 := ⟨_, rfl⟩
              have HN4 := Aside0.mk (show QN w w.heap.size (w.heap.size + 1) q0 q1 ((o, st, .slice As st.length ps) :: X) seen (wr.alloc (.cells #[.string OO, .slice none 0 0] 71 (0, 0))) (.slice (some ⟨b6, o6, none⟩) (X.length + 1) p6) g8 gl OO [] (.slice none 0 0) from
                ⟨(HI.out.below (below_alloc (Below.refl _ _) _)).weak (fun i _ _ e => by cases e), Kd.R_nil _ _ _ _ _, by rw [← hg8]; exact blk_new wr _, fun k hk e => by have h_ := (HI.out.opn.lt k hk).1; omega, by rw [← hg8]; exact HI.out.bel.size, blk_alloc HL.out _⟩)
              rw [hg8]
              clear hg8 HO HSV
              have HA' := Aside0.mk (show qfSt K q0 q1 115 OO NX3 st [] seen = some (r1, r2) by rw [← hOO]; exact HA.out)
              have HNX3' := Aside0.mk (show (fun (nst seen : List S46) => if nst.length = 0 then qfLet K q0 q1 o st NX [] (projG ((o, st, .slice As st.length ps) :: X)) seen else qfLet K q0 q1 o st NX [] (projG ((o, st, .slice As st.length ps) :: X) ++ [(OO, nst)]) seen) = NX3 by rw [← hOO]; exact HNX3.out)
              clear HA HNX3 hOO HI HL
              go_loopw [46] (fun v46 wr4 => ∃ (j : Nat) (nst seen : List S46) (nv : Value), j ≤ st.length ∧ v46 = .int .i64 (j : Int) ∧ Aside0 (qfSt K q0 q1 115 OO NX3 (st.drop j) nst seen = some (r1, r2)) ∧ Aside0 (QN w w.heap.size (w.heap.size + 1) q0 q1 ((o, st, .slice As st.length ps) :: X) seen wr4 (.slice (some ⟨b6, o6, none⟩) (X.length + 1) p6) g8 gl OO nst nv)) (fun v46 _ => st.length - (intOf v46).toNat)
              case atStart => exact ⟨0, [], seen, .slice none 0 0, Nat.zero_le _, rfl, HA', HN4⟩
              case round =>
                clear HA' HN4
                obtain ⟨j, nst, seen, nv, hj, rfl, HA4, HN4⟩ := hrel
                by_cases hjl : j < st.length
                · have hjb : decide ((j : Int) < (st.length : Int)) = true := decide_eq_true (by omega)
                  have hj0 : (0 : Int) ≤ (j : Int) := by omega
                  have hj1 : (j : Int) < (st.length : Int) := by omega
                  have hsv := HN4.out.qi.inn (o, st, .slice As st.length ps) (List.mem_cons_self ..)
                  obtain ⟨-, -, hCs⟩ := Kd.R_reads' hsv
                  obtain ⟨ad, rfl, hx0, hx1, hx2, hx3, hx4, hx5, hx6⟩ := at_T46 hCs (j : Int) hj0 hj1
                  obtain ⟨x, hx⟩ : ∃ x, rd_T46 st (j : Int) = x := ⟨_, rfl⟩
                  rw [hx, Int.toNat_natCast] at hx0 hx1 hx2 hx3 hx4 hx5 hx6
                  have hdr : st.drop j = x :: st.drop (j + 1) := by rw [List.drop_eq_getElem_cons hjl, ← hx]; simp [rd_T46, hjl]
                  have hA := HA4.out
                  rw [hdr] at hA
                  simp only [qfSt] at hA
                  replace hA := Option.bind_eq_some_iff.1 hA
                  obtain ⟨l, hl, hA⟩ := hA
                  by_cases dl : l.length < 1099511627776
                  · rw [if_pos dl] at hA
                    obtain ⟨NX4, hNX4⟩ : ∃ NX4, (fun (nst seen : List S46) => qfSt K q0 q1 115 OO NX3 (st.drop (j + 1)) nst seen) = NX4 := ⟨_, rfl⟩
                    rw [hNX4] at hA
                    have HNX4 := Aside0.mk hNX4
                    have HAF := Aside0.mk hl
                    have HA6 := Aside0.mk hA
                    obtain ⟨zq0, zq1⟩ := qq_cells (blk_alloc HN4.out.qi.q (boxY x))
                    unfold boxY at zq0 zq1
                    have HJL := Aside0.mk hjl
                    clear hsv hCs hx hdr hA hl hNX4 hjl
                    go_wp2_with (first
                      | (go_at_call 31; (with_reducible refine (afterF.calls K q0 q1 x 115 l _ HAF.out).mono ?_); rintro e w5 ⟨va, rfl, hRa, hBa⟩; obtain ⟨Aa, pa, eva, hpa, -⟩ := Kd.R_reads hRa; subst eva; have HN5 := Aside0.mk (HN4.out.below (below_step (below_alloc (Below.refl _ _) (boxY x)) hBa)); have RA6 := Aside0.mk (show k46.R 46 w5 w.heap.size (fun k => nv.ownBlock ≠ some k) (.slice Aa l.length pa) l from Kd.R_lower (Kd.R_mono (Kd.R_bound hRa) (fun k hk e => by have h1_ := (Kd.R_lt HN4.out.nx k e); have h2_ := hk.2.1; rw [World.size_alloc] at h2_; omega)) (by rw [World.size_alloc]; have := HN4.out.qi.bel.size; omega)); clear hRa hBa hpa))
                    clear hx0 hx1 hx2 hx3 hx4 hx5 hx6 zq0 zq1
                    go_loopw [55] (fun v55 wr6 => ∃ (i6 : Nat) (nst seen : List S46) (nv : Value), i6 ≤ l.length ∧ v55 = .int .i64 (i6 : Int) ∧ Aside0 (qfOwn q0 OO NX4 (l.drop i6) nst seen = some (r1, r2)) ∧ Aside0 (QN w w.heap.size (w.heap.size + 1) q0 q1 ((o, st, .slice (some ad) st.length ps) :: X) seen wr6 (.slice (some ⟨b6, o6, none⟩) (X.length + 1) p6) g8 gl OO nst nv) ∧ Aside0 (k46.R 46 wr6 w.heap.size (fun k => nv.ownBlock ≠ some k) (.slice Aa l.length pa) l)) (fun v55 _ => l.length - (intOf v55).toNat)
                    case atStart => exact ⟨0, nst, seen, nv, Nat.zero_le _, rfl, HA6, HN5, RA6⟩
                    case round =>
                      clear HA6 HN5 HA4 HN4 RA6
                      obtain ⟨i6, nst, seen, nv, hi6, rfl, HA7, HN7, RA7⟩ := hrel
                      by_cases hil : i6 < l.length
                      · have hib : decide ((i6 : Int) < (l.length : Int)) = true := decide_eq_true (by omega)
                        have hi0 : (0 : Int) ≤ (i6 : Int) := by omega
                        have hi1 : (i6 : Int) < (l.length : Int) := by omega
                        obtain ⟨-, -, hCa⟩ := Kd.R_reads' RA7.out
                        obtain ⟨ae, rfl, hy0, hy1, hy2, hy3, hy4, hy5, hy6⟩ := at_T46 hCa (i6 : Int) hi0 hi1
                        obtain ⟨y, hy⟩ : ∃ y, rd_T46 l (i6 : Int) = y := ⟨_, rfl⟩
                        rw [hy, Int.toNat_natCast] at hy0 hy1 hy2 hy3 hy4 hy5 hy6
                        have hdl : l.drop i6 = y :: l.drop (i6 + 1) := by rw [List.drop_eq_getElem_cons hil, ← hy]; simp [rd_T46, hil]
                        have hA := HA7.out
                        rw [hdl] at hA
                        simp only [qfOwn] at hA
                        obtain ⟨An, pn, env, hpn, -⟩ := Kd.R_reads HN7.out.nx
                        have env' : nv = .slice An nst.length pn := env
                        subst env'
                        have HN8 := Aside0.mk (HN7.out.below (below_alloc (Below.refl _ _) (boxY y)))
                        have HY8 := Aside0.mk (blk_new wr (boxY y))
                        have RA8 := Aside0.mk (Kd.R_alloc RA7.out (boxY y))
                        obtain ⟨zq0, zq1⟩ := qq_cells HN8.out.qi.q
                        unfold boxY at zq0 zq1
                        by_cases dr : 0 ≤ y.f6 ∧ y.f6 ≤ q0
                        · rw [if_pos dr] at hA
                          have HI := Aside0.mk ((within_is' y.f6 0 q0).trans (by rw [decide_eq_true dr] : _ = some true))
                          by_cases ds : seen.any (sameY y) = true
                          · rw [if_pos ds] at hA
                            have HDS := Aside0.mk ds
                            have HA := Aside0.mk hA
                            clear hA hdl hy hCa dr env hpn ds hil
                            go_wp2_with (first
                              | (go_at_call 20; (with_reducible refine (impl_within.calls y.f6 0 q0 true _ HI.out).mono ?_); rintro e wi ⟨rfl, hD⟩; have HN9 := Aside0.mk (HN8.out.below (w' := wi) (by obtain ⟨m, rfl⟩ := hD; exact pw_below_drewN (Below.refl _ _) m)); have HY9 := Aside0.mk (show wi.heap[wr.heap.size]? = some (boxY y) by obtain ⟨m, rfl⟩ := hD; exact HY8.out); have RA9 := Aside0.mk (show k46.R 46 wi w.heap.size (fun k => (Value.slice An nst.length pn).ownBlock ≠ some k) (.slice (some ae) l.length pa) l by obtain ⟨m, rfl⟩ := hD; exact Kd.R_drewN RA8.out m); clear hD; obtain ⟨x0, x1, x2, x3, x4, x5, x6⟩ := y_cells HY9.out; have hlk : (Instr.lookup 68 (.map (some (w.heap.size + 1))) (.agg #[.int .i64 y.f0, .int .i64 y.f1, .int .i64 y.f2, .int .i64 y.f3, .int .i64 y.f4, .int .i64 y.f5, .int .i64 y.f6]) false).run Tryd.prog wi = .ok (.bool true) wi := by have h_ := HN9.out.qi.map.look y; rw [HDS.out] at h_; exact h_))
                            exact ⟨⟨i6 + 1, nst, seen, _, by omega, by go_num, HA, HN9, RA9⟩, by simp [intOf]; omega⟩
                          · rw [if_neg ds] at hA
                            by_cases dn : nst.length < 1099511627776
                            · rw [if_pos dn] at hA
                              have HDS := Aside0.mk (show seen.any (sameY y) = false by simpa using ds)
                              have HDN := Aside0.mk dn
                              have HA := Aside0.mk hA
                              clear hA hdl hy hCa dr env hpn ds dn hil
                              go_wp2_with (first
                                | (go_at_call 20; (with_reducible refine (impl_within.calls y.f6 0 q0 true _ HI.out).mono ?_); rintro e wi ⟨rfl, hD⟩; have HN9 := Aside0.mk (HN8.out.below (w' := wi) (by obtain ⟨m, rfl⟩ := hD; exact pw_below_drewN (Below.refl _ _) m)); have HY9 := Aside0.mk (show wi.heap[wr.heap.size]? = some (boxY y) by obtain ⟨m, rfl⟩ := hD; exact HY8.out); have RA9 := Aside0.mk (show k46.R 46 wi w.heap.size (fun k => (Value.slice An nst.length pn).ownBlock ≠ some k) (.slice (some ae) l.length pa) l by obtain ⟨m, rfl⟩ := hD; exact Kd.R_drewN RA8.out m); clear hD; obtain ⟨x0, x1, x2, x3, x4, x5, x6⟩ := y_cells HY9.out; have hlk : (Instr.lookup 68 (.map (some (w.heap.size + 1))) (.agg #[.int .i64 y.f0, .int .i64 y.f1, .int .i64 y.f2, .int .i64 y.f3, .int .i64 y.f4, .int .i64 y.f5, .int .i64 y.f6]) false).run Tryd.prog wi = .ok (.bool false) wi := (by have h_ := HN9.out.qi.map.look y; rw [HDS.out] at h_; exact h_); obtain ⟨w7, hup, hm7, hk7, hs7⟩ := HN9.out.qi.map.upd y HDS.out; have hup' : (Instr.mapUpdate 68 (.map (some (w.heap.size + 1))) (.agg #[.int .i64 y.f0, .int .i64 y.f1, .int .i64 y.f2, .int .i64 y.f3, .int .i64 y.f4, .int .i64 y.f5, .int .i64 y.f6]) (.bool true)).run Tryd.prog wi = .ok () w7 := hup; have HN10 := Aside0.mk (HN9.out.told hk7 hm7 (by omega)); have HY10 := Aside0.mk (hk7.keep HY9.out (HN9.out.qi.map.ne HY9.out)); have RA10 := Aside0.mk (R80.keep RA9.out hk7 (fun i cells hc _ => HN9.out.qi.map.ne hc)); have hb0 := (blk_cell HN10.out.bx 1).trans rfl; obtain ⟨m0, m1, m2, m3, m4, m5, m6⟩ := y_cells HY10.out; clear hup hm7 hk7 hs7)
                                | ((with_reducible refine gate_builtin (b := .append) (xs := #[.tmp 74, .tmp 76]) rfl ?_); at_builtin; refine Kd.R_append k46 (w0 := w) w.heap.size rfl (.tmp 74) (.tmp 76) 69 46 (.agg #[.int .i64 0, .int .i64 0, .int .i64 0, .int .i64 0, .int .i64 0, .int .i64 0, .int .i64 0]) 56 rfl Tryd.underlying69 info46 rfl (by decide) (by omega) (.slice An nst.length pn) nst y [.int .i64 y.f0, .int .i64 y.f1, .int .i64 y.f2, .int .i64 y.f3, .int .i64 y.f4, .int .i64 y.f5, .int .i64 y.f6] (fun _ => True) (fun _ => False) rfl rfl ?aP (fun _ hk => hk.elim) ?aF ?aO ?aB ?aS ?aL ?_; (case aP => exact k46_mkM _ _ _ y); (case aF => exact (fun _ _ => trivial)); (case aO => exact HN10.out.nx); (case aB => exact HN10.out.qi.bel); (case aS => exact HN10.out.qi.bel.size); (case aL => have := HDN.out; omega); intro v8 w8 ho hb hg hat; obtain ⟨A8, p8, e8, -, -⟩ := Kd.R_reads ho; have e8' : v8 = .slice A8 (nst.length + 1) p8 := (by rw [List.length_append] at e8; exact e8); subst e8'; clear e8; have HN11 := Aside0.mk (QN.more HN10.out ho hb hg hat); have bx8 := Aside0.mk (blk_grown HN10.out.bx hg (Kd.R_ne HN10.out.nx HN10.out.bx (by decide))); have RA11 := Aside0.mk (RA.more HN10.out RA10.out ho hb hg hat); have hc8 := (blk_cell bx8.out 1).trans rfl; have hf8 := blk_frozen bx8.out 1; clear ho hb hg hat))
                              exact ⟨⟨i6 + 1, nst ++ [y], seen ++ [y], _, by omega, by go_num, HA, HN11, RA11⟩, by simp [intOf]; omega⟩
                            · rw [if_neg dn] at hA; cases hA
                        · rw [if_neg dr] at hA
                          have HI := Aside0.mk ((within_is' y.f6 0 q0).trans (by rw [decide_eq_false dr] : _ = some false))
                          have hr := Option.some.inj hA
                          injection hr with e1 e2
                          subst e2
                          have HE1 := Aside0.mk e1
                          clear hA hdl hy hCa hil dr env hpn e1
                          go_wp2_with (first
                            | (go_at_call 20; (with_reducible refine (impl_within.calls y.f6 0 q0 false _ HI.out).mono ?_); rintro e wi ⟨rfl, hD⟩; have HN9 := Aside0.mk (HN8.out.below (w' := wi) (by obtain ⟨m, rfl⟩ := hD; exact pw_below_drewN (Below.refl _ _) m)); clear hD; have hb0 := (blk_cell HN9.out.bx 0).trans rfl))
                          go_ret2
                          exact ⟨by first | rfl | (rw [← HE1.out]; rfl) | rw [HE1.out], HN9.out.qi.bel⟩
                      · have hib : decide ((i6 : Int) < (l.length : Int)) = false := decide_eq_false (by omega)
                        obtain rfl : i6 = l.length := by omega
                        have hA := HA7.out
                        rw [List.drop_length] at hA
                        simp only [qfOwn] at hA
                        rw [← HNX4.out] at hA
                        dsimp only at hA
                        have HA8 := Aside0.mk hA
                        clear hA
                        go_wp2
                        exact ⟨⟨j + 1, nst, seen, nv, by have := HJL.out; omega, by go_num, HA8, HN7⟩, by simp [intOf]; have := HJL.out; omega⟩
                  · rw [if_neg dl] at hA; cases hA
                · have hjb : decide ((j : Int) < (st.length : Int)) = false := decide_eq_false (by omega)
                  obtain rfl : j = st.length := by omega
                  have hA := HA4.out
                  rw [List.drop_length] at hA
                  simp only [qfSt] at hA
                  rw [← HNX3'.out] at hA
                  dsimp only at hA
                  obtain ⟨An, pn, env, hpn, -⟩ := Kd.R_reads HN4.out.nx
                  have env' : nv = .slice An nst.length pn := env
                  subst env'
                  have hb0 := (blk_cell HN4.out.bx 0).trans rfl
                  have hb1 : wr.cell? ⟨g8, 1, none⟩ = some (.slice An nst.length pn) := (blk_cell HN4.out.bx 1).trans rfl
                  have hb2 : wr.cell? ⟨g8, 0, none⟩ = some (.string OO) := (blk_cell HN4.out.bx 0).trans rfl
                  clear hb0
                  by_cases dn : nst.length = 0
                  · rw [if_pos dn] at hA
                    have hdn : decide ((0 : Int) < (nst.length : Int)) = false := decide_eq_false (by omega)
                    have hdn2 : decide (0 < nst.length) = false := decide_eq_false (by omega)
                    have HA8 := Aside0.mk hA
                    clear hA dn env hpn hjl
                    go_wp2
                    go_roundg (1 - 1)
                    case measure => omega
                    case rel => exact ⟨1 + 1, X, seen, by omega, by first | rfl | go_num, HA8, ⟨HN4.out.qi.weak (fun _ _ _ => trivial)⟩, ⟨HN4.out.ll⟩⟩
                  · rw [if_neg dn] at hA
                    have hdn : decide ((0 : Int) < (nst.length : Int)) = true := decide_eq_true (by omega)
                    have hdn2 : decide (0 < nst.length) = true := decide_eq_true (by omega)
                    have HA8 := Aside0.mk hA
                    clear hA dn env hpn hjl
                    go_wp2_with (first
                      | ((with_reducible refine gate_builtin (b := .append) (xs := #[.tmp 85, .tmp 87]) rfl ?_); at_builtin; refine open_append w.heap.size rfl (.tmp 85) (.tmp 87) 72 71 (.agg #[.string ByteArray.empty, .slice none 0 0]) 40 rfl Tryd.underlying72 info71 rfl (by decide) (.slice (some ⟨b6, o6, none⟩) (X.length + 1) p6) (cellsG ((o, st, .slice As st.length ps) :: X)) (X.length + 1) (.string OO) (.slice An nst.length pn) ⟨rfl, rfl⟩ rfl rfl HN4.out.qi.opn HN4.out.qi.bel.size ?aL ?_; (case aL => have h_ := HD0.out.2.1; simp [projG] at h_; omega); intro v1 w1 ho hk; have HP := Aside0.mk (QN.push HN4.out ho hk); clear ho hk))
                    go_roundg (1 - 1)
                    case measure => omega
                    case rel => exact ⟨1 + 1, X ++ [(OO, nst, Value.slice An nst.length pn)], seen, by omega, by first | rfl | go_num, ⟨by have h_ := HA8.out; simpa [projG] using h_⟩, ⟨by have h_ := HP.out.1; rw [List.cons_append] at h_; exact h_⟩, ⟨HP.out.2⟩⟩
            · rw [if_neg d0] at hA; cases hA
          · have hA := HA.out
            simp only [List.drop_succ_cons, List.drop_zero, List.drop_nil, qfLet] at hA
            rw [← HNX.out] at hA
            have HA := Aside0.mk (show qfRow K q0 q1 k1 (projG X) seen = some (r1, r2) from hA)
            have HO := Aside0.mk HI.out.opn
            obtain ⟨b6, o6, p6, cur6, e6, -, -, hn6, -⟩ := HI.out.opn
            have e6' : u5 = .slice (some ⟨b6, o6, none⟩) (X.length + 1) p6 := e6
            subst e6'
            have hn6' : X.length + 1 ≤ p6 := hn6
            have h1a : (1 : Int) ≤ ((X.length + 1 : Nat) : Int) := by omega
            have h1b : (1 : Int) ≤ (X.length : Int) + 1 := by omega
            have h1c : X.length + 1 ≥ 1 := by omega
            clear hA e6 hn6
            by_cases hp : p6 = 1
            · subst hp
              go_wp2
              have hx : X = [] := by cases X with | nil => rfl | cons => simp at hn6'
              subst hx
              go_roundg k1
              case measure => omega
              case rel => exact ⟨[], seen, HA, ⟨by have := HK1.out; omega⟩, ⟨⟨OpenIs.tail HO.out _ (.inl ⟨rfl, rfl⟩), fun g hg => HI.out.inn g (List.mem_cons_of_mem _ hg), HI.out.map, HI.out.q, HI.out.bel⟩⟩⟩
            · have hp' : ¬ (p6 - 1 = 0) := by omega
              go_wp2
              go_roundg k1
              case measure => omega
              case rel => exact ⟨X, seen, HA, ⟨by have := HK1.out; omega⟩, ⟨⟨OpenIs.tail HO.out _ (.inr rfl), fun g hg => HI.out.inn g (List.mem_cons_of_mem _ hg), HI.out.map, HI.out.q, HI.out.bel⟩⟩⟩
end Go.Proofs.YtdgohcdemnmieaaDoor.A
