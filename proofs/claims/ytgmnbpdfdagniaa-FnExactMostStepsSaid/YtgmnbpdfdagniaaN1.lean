/- The program's search for the longest way, walked. No conditions. -/
import Derived.Test.YtgmnbpdfdagniaaZ32
import Derived.Test.YtgmnbpdfdagniaaZ29
namespace Go.Proofs.Ytgmnbpdfdagniaa.A
open Go.RowKit Go.Proofs.YtgmnbpdfdagniaaW.PrintWords Go.Proofs.YtgmnbpdfdagniaaW.PrintLast Go.Proofs.YtgmnbpdfdagniaaW.PrintMore
set_option linter.unusedVariables false
set_option linter.unusedSimpArgs false
abbrev MapI := List (LN × Int)
def mapI (M : MapI) : List (LN × Value) := M.map (fun p => (p.1, Value.int .i64 p.2))
def lgLet (rec : LN → MapI → Option (Int × Bool × MapI)) (l : Lnk) (ratio : Int) (x : LN) : List Int → Int → MapI → Option (Int × Bool × MapI)
  | [], most, M => some (most, true, setN M x most)
  | L :: Ls, most, M => (afterN l L ratio x).bind fun p =>
    if p.2.2 = true ∧ ¬ p.1.taken = l.wd then (rec p.1 M).bind fun q => if q.2.1 = true then lgLet rec l ratio x Ls (max most (wrap64 (q.1 + 1))) q.2.2 else some (0, false, q.2.2)
    else lgLet rec l ratio x Ls most M
def lgF (l : Lnk) (ratio : Int) : Nat → LN → MapI → Option (Int × Bool × MapI)
  | 0, _, _ => none
  | n + 1, x, M => match lookN M x with
    | some v => some (v, decide (0 ≤ v), M)
    | none => lgLet (lgF l ratio n) l ratio x [114, 115] 0 (setN M x (-1))
/-- What there is in memory while the ways of a node are gone through. -/
structure GI (w : World) (gl gx gq bm : Nat) (l : Lnk) (x : LN) (M : MapI) (wr : World) : Prop where
  lb : wr.heap[gl]? = some (boxL l)
  xb : wr.heap[gx]? = some (boxN x)
  qb : wr.heap[gq]? = some (.cells #[.int .u8 114, .int .u8 115] 5 (2, 3))
  map : MapN wr bm (mapI M)
  ks : KS (fun i => i = bm) w wr
theorem GI.below {w : World} {gl gx gq bm : Nat} {l : Lnk} {x : LN} {M : MapI} {wr w' : World} (h : GI w gl gx gq bm l x M wr) (k : Below wr.heap.size wr w') : GI w gl gx gq bm l x M w' :=
  ⟨blk_below h.lb k, blk_below h.xb k, blk_below h.qb k, h.map.below (B := 0) k, h.ks.below k⟩
theorem GI.told {w : World} {gl gx gq bm : Nat} {l : Lnk} {x : LN} {M M' : MapI} {wr w' : World} (h : GI w gl gx gq bm l x M wr) (k : KS (fun i => i = bm) wr w') (hm : MapN w' bm (mapI M')) : GI w gl gx gq bm l x M' w' :=
  ⟨k.keep h.lb (h.map.ne h.lb), k.keep h.xb (h.map.ne h.xb), k.keep h.qb (h.map.ne h.qb), hm, h.ks.trans k⟩
set_option maxHeartbeats 6400000 in
set_option maxRecDepth 100000 in
theorem lgF.calls (l : Lnk) (ratio : Int) (bm : Nat) : ∀ (n : Nat) (x : LN) (M M' : MapI) (r : Int) (b : Bool) (w : World), lgF l ratio n x M = some (r, b, M') → MapN w bm (mapI M) →
    Calls Try.prog 40 #[.agg #[.int .i64 l.ph, .int .i64 l.sg, .int .i64 l.sk, .int .i64 l.wd], .int .i64 ratio, .agg #[.int .i64 x.sent, .int .i64 x.req, .int .i64 x.ans, .int .i64 x.plc, .bool x.ow, .int .i64 x.word, .int .i64 x.gone, .int .i64 x.s0, .int .i64 x.s1, .int .i64 x.r0, .int .i64 x.r1, .int .i64 x.taken, .int .u8 x.last, .int .i64 x.run], .map (some bm)] w fun e w' => e = .returned (.tuple #[.int .i64 r, .bool b]) ∧ MapN w' bm (mapI M') ∧ KS (fun i => i = bm) w w'
  | 0, x, M, M', r, b, w, h, hm => by simp [lgF] at h
  | n + 1, x, M, M', r, b, w, h, hm => by
    have IH := Aside0.mk (fun x M M' r b w h hm => lgF.calls l ratio bm n x M M' r b w h hm)
    have H := Aside0.mk h
    have HM := Aside0.mk hm
    have HU := Aside0.mk Try.underlying55
    clear h hm
    go_enter Try.func40, Try.ntmps40
    go_upto_region 1 with (first
      | ((with_reducible refine gate_dst (N := 4) rfl ?_); refine box_event ?hg (N := 4) ?hd (cs := #[.int .i64 l.ph, .int .i64 l.sg, .int .i64 l.sk, .int .i64 l.wd]) (t := 33) ?hr ?_; (case hd => rfl); (case hg => rfl); (case hr => first | (go_simp; done) | (go_simp; rfl)); intro gl hgl W1 hbox hb; have L1 := Aside0.mk (show W1.heap[gl]? = some (boxL l) from hbox); have M1 := Aside0.mk (HM.out.below (B := 0) hb); have B1 := Aside0.mk hb; clear hbox hb hgl)
      | ((with_reducible refine gate_dst (N := 6) rfl ?_); refine box_event ?hg (N := 6) ?hd (cs := #[.int .i64 x.sent, .int .i64 x.req, .int .i64 x.ans, .int .i64 x.plc, .bool x.ow, .int .i64 x.word, .int .i64 x.gone, .int .i64 x.s0, .int .i64 x.s1, .int .i64 x.r0, .int .i64 x.r1, .int .i64 x.taken, .int .u8 x.last, .int .i64 x.run]) (t := 55) ?hr ?_; (case hd => rfl); (case hg => rfl); (case hr => first | (go_simp; done) | (go_simp; rfl)); intro gx hgx W2 hbox hb; have X2 := Aside0.mk (show W2.heap[gx]? = some (boxN x) from hbox); have L2 := Aside0.mk (blk_below L1.out hb); have M2 := Aside0.mk (M1.out.below (B := 0) hb); have B2 := Aside0.mk (below_step B1.out hb); clear hbox hb hgx L1 M1 B1))
    cases hlo : lookN M x with
    | some v =>
      have hA := H.out
      simp only [lgF, hlo] at hA
      have hr := Option.some.inj hA
      simp only [Prod.mk.injEq] at hr
      obtain ⟨rfl, rfl, rfl⟩ := hr
      have hlk : (Instr.lookup 70 (.map (some bm)) (.agg #[.int .i64 x.sent, .int .i64 x.req, .int .i64 x.ans, .int .i64 x.plc, .bool x.ow, .int .i64 x.word, .int .i64 x.gone, .int .i64 x.s0, .int .i64 x.s1, .int .i64 x.r0, .int .i64 x.r1, .int .i64 x.taken, .int .u8 x.last, .int .i64 x.run]) true).run Try.prog W2 = .ok (.tuple #[.int .i64 v, .bool true]) W2 := by
        have h_ := M2.out.look2 70 2 Try.underlying70 (.int .i64 0) (by kernel_rfl) x
        unfold mapI at h_
        rw [lookN_map (fun v => Value.int .i64 v), hlo] at h_
        exact h_
      clear hA H hlo
      go_wp2_with (first
        | ((with_reducible refine gate_dst (N := 22) rfl ?_); refine load_row_event rfl 55 (.tmp 6) rfl gx rfl 55 #[.int .i64 x.sent, .int .i64 x.req, .int .i64 x.ans, .int .i64 x.plc, .bool x.ow, .int .i64 x.word, .int .i64 x.gone, .int .i64 x.s0, .int .i64 x.s1, .int .i64 x.r0, .int .i64 x.r1, .int .i64 x.taken, .int .u8 x.last, .int .i64 x.run] _ X2.out HU.out rfl (by kernel_rfl) ?_))
      go_ret2
      exact ⟨rfl, M2.out, KS.of_below B2.out⟩
    | none =>
      have hA := H.out
      simp only [lgF, hlo] at hA
      have hlk : (Instr.lookup 70 (.map (some bm)) (.agg #[.int .i64 x.sent, .int .i64 x.req, .int .i64 x.ans, .int .i64 x.plc, .bool x.ow, .int .i64 x.word, .int .i64 x.gone, .int .i64 x.s0, .int .i64 x.s1, .int .i64 x.r0, .int .i64 x.r1, .int .i64 x.taken, .int .u8 x.last, .int .i64 x.run]) true).run Try.prog W2 = .ok (.tuple #[.int .i64 0, .bool false]) W2 := by
        have h_ := M2.out.look2 70 2 Try.underlying70 (.int .i64 0) (by kernel_rfl) x
        unfold mapI at h_
        rw [lookN_map (fun v => Value.int .i64 v), hlo] at h_
        exact h_
      obtain ⟨W3, hup, hm3, hk3, hs3⟩ := M2.out.upd 70 2 Try.underlying70 x (.int .i64 (-1))
      have hup' : (Instr.mapUpdate 70 (.map (some bm)) (.agg #[.int .i64 x.sent, .int .i64 x.req, .int .i64 x.ans, .int .i64 x.plc, .bool x.ow, .int .i64 x.word, .int .i64 x.gone, .int .i64 x.s0, .int .i64 x.s1, .int .i64 x.r0, .int .i64 x.r1, .int .i64 x.taken, .int .u8 x.last, .int .i64 x.run]) (.int .i64 (-1))).run Try.prog W2 = .ok () W3 := hup
      have M3 := Aside0.mk (show MapN W3 bm (mapI (setN M x (-1))) by unfold mapI at hm3 ⊢; rw [setN_map (fun v => Value.int .i64 v)] at hm3; exact hm3)
      have L3 := Aside0.mk (hk3.keep L2.out (M2.out.ne L2.out))
      have X3 := Aside0.mk (hk3.keep X2.out (M2.out.ne X2.out))
      have K3 := Aside0.mk ((KS.of_below (S := fun i => i = bm) B2.out).trans hk3)
      have HA := Aside0.mk hA
      clear hup hm3 hk3 hs3 hA H hlo
      have hcv : (convert 86 86 (.slice (some ⟨W3.heap.size, 0, none⟩) 2 2)).run Try.prog (W3.alloc (.cells #[.int .u8 114, .int .u8 115] 5 (0, 0))) = .ok (.slice (some ⟨W3.heap.size, 0, none⟩) 2 2) (W3.alloc (.cells #[.int .u8 114, .int .u8 115] 5 (2, 3))) := Lib.run_convert_bytes_const W3 86 5 #[.int .u8 114, .int .u8 115] 2 2 Try.underlying86 Try.underlying5
      go_wp2_with (first
        | ((with_reducible refine gate_dst (N := 22) rfl ?_); refine load_row_event rfl 55 (.tmp 6) rfl gx rfl 55 #[.int .i64 x.sent, .int .i64 x.req, .int .i64 x.ans, .int .i64 x.plc, .bool x.ow, .int .i64 x.word, .int .i64 x.gone, .int .i64 x.s0, .int .i64 x.s1, .int .i64 x.r0, .int .i64 x.r1, .int .i64 x.taken, .int .u8 x.last, .int .i64 x.run] _ X2.out HU.out rfl (by kernel_rfl) ?_)
        | ((with_reducible refine gate_dst (N := 31) rfl ?_); refine load_row_event rfl 55 (.tmp 6) rfl gx rfl 55 #[.int .i64 x.sent, .int .i64 x.req, .int .i64 x.ans, .int .i64 x.plc, .bool x.ow, .int .i64 x.word, .int .i64 x.gone, .int .i64 x.s0, .int .i64 x.s1, .int .i64 x.r0, .int .i64 x.r1, .int .i64 x.taken, .int .u8 x.last, .int .i64 x.run] _ X2.out HU.out rfl (by kernel_rfl) ?_))
      clear hcv hup' hlk
      have G4 := Aside0.mk (show GI w gl gx W3.heap.size bm l x (setN M x (-1)) (W3.alloc (.cells #[.int .u8 114, .int .u8 115] 5 (2, 3))) from ⟨blk_alloc L3.out _, blk_alloc X3.out _, blk_new W3 _, M3.out.below (B := 0) (below_alloc (Below.refl _ _) _), K3.out.below (below_alloc (Below.refl _ _) _)⟩)
      obtain ⟨gq, hgq⟩ : ∃ gq, W3.heap.size = gq := ⟨_, rfl⟩
      have G4' := Aside0.mk (show GI w gl gx gq bm l x (setN M x (-1)) (W3.alloc (.cells #[.int .u8 114, .int .u8 115] 5 (2, 3))) by rw [← hgq]; exact G4.out)
      rw [hgq]
      clear hgq G4 M3 L3 X3 K3 L2 X2 M2 B2 HM
      go_loopg [12, 35] 2 (fun kq v12 v35 wr => ∃ (i : Nat) (most : Int) (M : MapI), i + kq = 2 ∧ v12 = .int .i64 most ∧ v35 = .int .i64 (i : Int) ∧ Aside0 (lgLet (lgF l ratio n) l ratio x (([114, 115] : List Int).drop i) most M = some (r, b, M')) ∧ Aside0 (GI w gl gx gq bm l x M wr))
      case atStart => exact ⟨0, 0, setN M x (-1), rfl, rfl, rfl, HA, G4'⟩
      case round =>
        clear HA G4'
        obtain ⟨i, most, M, hik, rfl, rfl, HA, HG⟩ := hrel
        rcases (show i = 0 ∨ i = 1 ∨ i = 2 by omega) with rfl | rfl | rfl
        · skip
          have hA := HA.out
          simp only [List.drop_zero, List.drop_succ_cons, lgLet] at hA
          obtain ⟨⟨y, right, keeps⟩, hy, hA⟩ := Option.bind_eq_some_iff.1 hA
          dsimp only at hA
          have HY := Aside0.mk hy
          have HA1 := Aside0.mk hA
          clear hA hy HA
          have hcl : wr.cell? ⟨gq, 0, none⟩ = some (.int .u8 114) := (cell_of_row wr gq 0 _ 5 (2, 3) HG.out.qb).trans rfl
          go_upto_region 10 with (first
            | ((with_reducible refine gate_dst (N := 40) rfl ?_); refine load_row_event rfl 55 (.tmp 6) rfl gx rfl 55 #[.int .i64 x.sent, .int .i64 x.req, .int .i64 x.ans, .int .i64 x.plc, .bool x.ow, .int .i64 x.word, .int .i64 x.gone, .int .i64 x.s0, .int .i64 x.s1, .int .i64 x.r0, .int .i64 x.r1, .int .i64 x.taken, .int .u8 x.last, .int .i64 x.run] _ HG.out.xb HU.out rfl (by kernel_rfl) ?_)
            | ((with_reducible refine gate_dst (N := 41) rfl ?_); refine load_row_event rfl 33 (.tmp 4) rfl gl rfl 33 #[.int .i64 l.ph, .int .i64 l.sg, .int .i64 l.sk, .int .i64 l.wd] _ HG.out.lb Try.underlying33 rfl (by kernel_rfl) ?_)
            | (go_at_call 48; (with_reducible refine (afterN.calls l 114 ratio x y right keeps _ HY.out).mono ?_); rintro e v1 ⟨rfl, hb⟩; have G1 := Aside0.mk (HG.out.below hb); clear hb)
            | ((with_reducible refine gate_dst (N := 15) rfl ?_); refine box_event ?hg (N := 15) ?hd (cs := #[.int .i64 0, .int .i64 0, .int .i64 0, .int .i64 0, .bool false, .int .i64 0, .int .i64 0, .int .i64 0, .int .i64 0, .int .i64 0, .int .i64 0, .int .i64 0, .int .u8 0, .int .i64 0]) (t := 55) ?hr ?_; (case hd => rfl); (case hg => rfl); (case hr => first | (go_simp; done) | (go_simp; rfl)); intro gy hgy v2 hbox hb; have A2 := Aside0.mk hbox; have BB := Aside0.mk hb; have GY := Aside0.mk (show v1.heap.size ≤ gy by omega); clear hbox hb hgy)
            | ((with_reducible refine gate_store (t := 55) (p := 15) rfl ?_); refine store_row_event rfl rfl 55 (.tmp 15) (.tmp 45) rfl gy #[.int .i64 y.sent, .int .i64 y.req, .int .i64 y.ans, .int .i64 y.plc, .bool y.ow, .int .i64 y.word, .int .i64 y.gone, .int .i64 y.s0, .int .i64 y.s1, .int .i64 y.r0, .int .i64 y.r1, .int .i64 y.taken, .int .u8 y.last, .int .i64 y.run] rfl rfl 55 _ A2.out (by kernel_rfl) (by first | rfl | kernel_rfl) (by first | rfl | kernel_rfl | simp [Value.oneCell']) ?_; intro v3 hs3 hk3; have Y3 := Aside0.mk (show v3.heap[gy]? = some (boxN y) from hs3); have G3 := Aside0.mk (G1.out.below (hk3.low BB.out GY.out)); have n11 : v3.cell? ⟨gy, 11, none⟩ = some (.int .i64 y.taken) := (blk_cell Y3.out 11).trans rfl; have l3 : v3.cell? ⟨gl, 3, none⟩ = some (.int .i64 l.wd) := (blk_cell G3.out.lb 3).trans rfl; clear hs3 hk3))
          clear hcl
          cases keeps with
          | false =>
            have hA := HA1.out
            rw [if_neg (by simp)] at hA
            have HA2 := Aside0.mk hA
            clear hA HA1
            go_wp2
            go_roundg (1 - 0)
            case measure => omega
            case rel => exact ⟨0 + 1, most, M, by omega, rfl, by first | rfl | go_num, HA2, G3⟩
          | true =>
            by_cases ct : y.taken = l.wd
            · have ctb : (y.taken == l.wd) = true := beq_iff_eq.2 ct
              have hA := HA1.out
              rw [if_neg (fun z => z.2 ct)] at hA
              have HA2 := Aside0.mk hA
              clear hA HA1 ct
              go_wp2
              go_roundg (1 - 0)
              case measure => omega
              case rel => exact ⟨0 + 1, most, M, by omega, rfl, by first | rfl | go_num, HA2, G3⟩
            · have ctb : (y.taken == l.wd) = false := beq_eq_false_iff_ne.2 ct
              have hA := HA1.out
              rw [if_pos ⟨rfl, ct⟩] at hA
              obtain ⟨⟨v, ends, M2⟩, hv, hA⟩ := Option.bind_eq_some_iff.1 hA
              dsimp only at hA
              have HV := Aside0.mk hv
              have HA2 := Aside0.mk hA
              clear hA HA1 ct hv
              go_upto_region 12 with (first
                | ((with_reducible refine gate_dst (N := 58) rfl ?_); refine load_row_event rfl 33 (.tmp 4) rfl gl rfl 33 #[.int .i64 l.ph, .int .i64 l.sg, .int .i64 l.sk, .int .i64 l.wd] _ G3.out.lb Try.underlying33 rfl (by kernel_rfl) ?_)
                | ((with_reducible refine gate_dst (N := 60) rfl ?_); refine load_row_event rfl 55 (.tmp 15) rfl gy rfl 55 #[.int .i64 y.sent, .int .i64 y.req, .int .i64 y.ans, .int .i64 y.plc, .bool y.ow, .int .i64 y.word, .int .i64 y.gone, .int .i64 y.s0, .int .i64 y.s1, .int .i64 y.r0, .int .i64 y.r1, .int .i64 y.taken, .int .u8 y.last, .int .i64 y.run] _ Y3.out HU.out rfl (by kernel_rfl) ?_)
                | (go_at_call 40; (with_reducible refine (IH.out y M M2 v ends _ HV.out G3.out.map).mono ?_); rintro e v4 ⟨rfl, hm4, hk4⟩; have G4 := Aside0.mk (G3.out.told hk4 hm4); clear hm4 hk4))
              clear n11 l3 ctb
              have hA := HA2.out
              clear HA2
              cases ends with
              | false =>
                rw [if_neg (by decide)] at hA
                have hr := Option.some.inj hA
                simp only [Prod.mk.injEq] at hr
                obtain ⟨rfl, rfl, rfl⟩ := hr
                clear hA
                go_wp2
                go_ret2
                exact ⟨rfl, G4.out.map, G4.out.ks⟩
              | true =>
                rw [if_pos rfl] at hA
                by_cases hmx : most < wrap64 (v + 1)
                · rw [show max most (wrap64 (v + 1)) = wrap64 (v + 1) from Int.max_eq_right (by omega)] at hA
                  have HA3 := Aside0.mk hA
                  have hmx2 : ¬ wrap64 (v + 1) < most := by omega
                  have hmx3 : ¬ wrap64 (v + 1) ≤ most := by omega
                  clear hA
                  go_wp2
                  go_roundg (1 - 0)
                  case measure => omega
                  case rel => exact ⟨0 + 1, wrap64 (v + 1), M2, by omega, rfl, by first | rfl | go_num, HA3, G4⟩
                · rw [show max most (wrap64 (v + 1)) = most from Int.max_eq_left (by omega)] at hA
                  have HA3 := Aside0.mk hA
                  have hmx3 : wrap64 (v + 1) ≤ most := by omega
                  clear hA
                  go_wp2
                  go_roundg (1 - 0)
                  case measure => omega
                  case rel => exact ⟨0 + 1, most, M2, by omega, rfl, by first | rfl | go_num, HA3, G4⟩
        · skip
          have hA := HA.out
          simp only [List.drop_zero, List.drop_succ_cons, lgLet] at hA
          obtain ⟨⟨y, right, keeps⟩, hy, hA⟩ := Option.bind_eq_some_iff.1 hA
          dsimp only at hA
          have HY := Aside0.mk hy
          have HA1 := Aside0.mk hA
          clear hA hy HA
          have hcl : wr.cell? ⟨gq, 1, none⟩ = some (.int .u8 115) := (cell_of_row wr gq 1 _ 5 (2, 3) HG.out.qb).trans rfl
          go_upto_region 10 with (first
            | ((with_reducible refine gate_dst (N := 40) rfl ?_); refine load_row_event rfl 55 (.tmp 6) rfl gx rfl 55 #[.int .i64 x.sent, .int .i64 x.req, .int .i64 x.ans, .int .i64 x.plc, .bool x.ow, .int .i64 x.word, .int .i64 x.gone, .int .i64 x.s0, .int .i64 x.s1, .int .i64 x.r0, .int .i64 x.r1, .int .i64 x.taken, .int .u8 x.last, .int .i64 x.run] _ HG.out.xb HU.out rfl (by kernel_rfl) ?_)
            | ((with_reducible refine gate_dst (N := 41) rfl ?_); refine load_row_event rfl 33 (.tmp 4) rfl gl rfl 33 #[.int .i64 l.ph, .int .i64 l.sg, .int .i64 l.sk, .int .i64 l.wd] _ HG.out.lb Try.underlying33 rfl (by kernel_rfl) ?_)
            | (go_at_call 48; (with_reducible refine (afterN.calls l 115 ratio x y right keeps _ HY.out).mono ?_); rintro e v1 ⟨rfl, hb⟩; have G1 := Aside0.mk (HG.out.below hb); clear hb)
            | ((with_reducible refine gate_dst (N := 15) rfl ?_); refine box_event ?hg (N := 15) ?hd (cs := #[.int .i64 0, .int .i64 0, .int .i64 0, .int .i64 0, .bool false, .int .i64 0, .int .i64 0, .int .i64 0, .int .i64 0, .int .i64 0, .int .i64 0, .int .i64 0, .int .u8 0, .int .i64 0]) (t := 55) ?hr ?_; (case hd => rfl); (case hg => rfl); (case hr => first | (go_simp; done) | (go_simp; rfl)); intro gy hgy v2 hbox hb; have A2 := Aside0.mk hbox; have BB := Aside0.mk hb; have GY := Aside0.mk (show v1.heap.size ≤ gy by omega); clear hbox hb hgy)
            | ((with_reducible refine gate_store (t := 55) (p := 15) rfl ?_); refine store_row_event rfl rfl 55 (.tmp 15) (.tmp 45) rfl gy #[.int .i64 y.sent, .int .i64 y.req, .int .i64 y.ans, .int .i64 y.plc, .bool y.ow, .int .i64 y.word, .int .i64 y.gone, .int .i64 y.s0, .int .i64 y.s1, .int .i64 y.r0, .int .i64 y.r1, .int .i64 y.taken, .int .u8 y.last, .int .i64 y.run] rfl rfl 55 _ A2.out (by kernel_rfl) (by first | rfl | kernel_rfl) (by first | rfl | kernel_rfl | simp [Value.oneCell']) ?_; intro v3 hs3 hk3; have Y3 := Aside0.mk (show v3.heap[gy]? = some (boxN y) from hs3); have G3 := Aside0.mk (G1.out.below (hk3.low BB.out GY.out)); have n11 : v3.cell? ⟨gy, 11, none⟩ = some (.int .i64 y.taken) := (blk_cell Y3.out 11).trans rfl; have l3 : v3.cell? ⟨gl, 3, none⟩ = some (.int .i64 l.wd) := (blk_cell G3.out.lb 3).trans rfl; clear hs3 hk3))
          clear hcl
          cases keeps with
          | false =>
            have hA := HA1.out
            rw [if_neg (by simp)] at hA
            have HA2 := Aside0.mk hA
            clear hA HA1
            go_wp2
            go_roundg (1 - 1)
            case measure => omega
            case rel => exact ⟨1 + 1, most, M, by omega, rfl, by first | rfl | go_num, HA2, G3⟩
          | true =>
            by_cases ct : y.taken = l.wd
            · have ctb : (y.taken == l.wd) = true := beq_iff_eq.2 ct
              have hA := HA1.out
              rw [if_neg (fun z => z.2 ct)] at hA
              have HA2 := Aside0.mk hA
              clear hA HA1 ct
              go_wp2
              go_roundg (1 - 1)
              case measure => omega
              case rel => exact ⟨1 + 1, most, M, by omega, rfl, by first | rfl | go_num, HA2, G3⟩
            · have ctb : (y.taken == l.wd) = false := beq_eq_false_iff_ne.2 ct
              have hA := HA1.out
              rw [if_pos ⟨rfl, ct⟩] at hA
              obtain ⟨⟨v, ends, M2⟩, hv, hA⟩ := Option.bind_eq_some_iff.1 hA
              dsimp only at hA
              have HV := Aside0.mk hv
              have HA2 := Aside0.mk hA
              clear hA HA1 ct hv
              go_upto_region 12 with (first
                | ((with_reducible refine gate_dst (N := 58) rfl ?_); refine load_row_event rfl 33 (.tmp 4) rfl gl rfl 33 #[.int .i64 l.ph, .int .i64 l.sg, .int .i64 l.sk, .int .i64 l.wd] _ G3.out.lb Try.underlying33 rfl (by kernel_rfl) ?_)
                | ((with_reducible refine gate_dst (N := 60) rfl ?_); refine load_row_event rfl 55 (.tmp 15) rfl gy rfl 55 #[.int .i64 y.sent, .int .i64 y.req, .int .i64 y.ans, .int .i64 y.plc, .bool y.ow, .int .i64 y.word, .int .i64 y.gone, .int .i64 y.s0, .int .i64 y.s1, .int .i64 y.r0, .int .i64 y.r1, .int .i64 y.taken, .int .u8 y.last, .int .i64 y.run] _ Y3.out HU.out rfl (by kernel_rfl) ?_)
                | (go_at_call 40; (with_reducible refine (IH.out y M M2 v ends _ HV.out G3.out.map).mono ?_); rintro e v4 ⟨rfl, hm4, hk4⟩; have G4 := Aside0.mk (G3.out.told hk4 hm4); clear hm4 hk4))
              clear n11 l3 ctb
              have hA := HA2.out
              clear HA2
              cases ends with
              | false =>
                rw [if_neg (by decide)] at hA
                have hr := Option.some.inj hA
                simp only [Prod.mk.injEq] at hr
                obtain ⟨rfl, rfl, rfl⟩ := hr
                clear hA
                go_wp2
                go_ret2
                exact ⟨rfl, G4.out.map, G4.out.ks⟩
              | true =>
                rw [if_pos rfl] at hA
                by_cases hmx : most < wrap64 (v + 1)
                · rw [show max most (wrap64 (v + 1)) = wrap64 (v + 1) from Int.max_eq_right (by omega)] at hA
                  have HA3 := Aside0.mk hA
                  have hmx2 : ¬ wrap64 (v + 1) < most := by omega
                  have hmx3 : ¬ wrap64 (v + 1) ≤ most := by omega
                  clear hA
                  go_wp2
                  go_roundg (1 - 1)
                  case measure => omega
                  case rel => exact ⟨1 + 1, wrap64 (v + 1), M2, by omega, rfl, by first | rfl | go_num, HA3, G4⟩
                · rw [show max most (wrap64 (v + 1)) = most from Int.max_eq_left (by omega)] at hA
                  have HA3 := Aside0.mk hA
                  have hmx3 : wrap64 (v + 1) ≤ most := by omega
                  clear hA
                  go_wp2
                  go_roundg (1 - 1)
                  case measure => omega
                  case rel => exact ⟨1 + 1, most, M2, by omega, rfl, by first | rfl | go_num, HA3, G4⟩
        · have hA := HA.out
          simp only [List.drop_zero, List.drop_succ_cons, lgLet] at hA
          have hr := Option.some.inj hA
          simp only [Prod.mk.injEq] at hr
          obtain ⟨rfl, rfl, rfl⟩ := hr
          clear hA HA
          obtain ⟨W9, hup, hm9, hk9, hs9⟩ := HG.out.map.upd 70 2 Try.underlying70 x (.int .i64 most)
          have hup' : (Instr.mapUpdate 70 (.map (some bm)) (.agg #[.int .i64 x.sent, .int .i64 x.req, .int .i64 x.ans, .int .i64 x.plc, .bool x.ow, .int .i64 x.word, .int .i64 x.gone, .int .i64 x.s0, .int .i64 x.s1, .int .i64 x.r0, .int .i64 x.r1, .int .i64 x.taken, .int .u8 x.last, .int .i64 x.run]) (.int .i64 most)).run Try.prog wr = .ok () W9 := hup
          have hm9' : MapN W9 bm (mapI (setN M x most)) := by unfold mapI at hm9 ⊢; rw [setN_map (fun v => Value.int .i64 v)] at hm9; exact hm9
          have G9 := Aside0.mk (HG.out.told hk9 hm9')
          clear hup hm9 hm9' hk9 hs9
          go_wp2_with (first
            | ((with_reducible refine gate_dst (N := 73) rfl ?_); refine load_row_event rfl 55 (.tmp 6) rfl gx rfl 55 #[.int .i64 x.sent, .int .i64 x.req, .int .i64 x.ans, .int .i64 x.plc, .bool x.ow, .int .i64 x.word, .int .i64 x.gone, .int .i64 x.s0, .int .i64 x.s1, .int .i64 x.r0, .int .i64 x.r1, .int .i64 x.taken, .int .u8 x.last, .int .i64 x.run] _ HG.out.xb HU.out rfl (by kernel_rfl) ?_))
          go_ret2
          exact ⟨rfl, G9.out.map, G9.out.ks⟩
end Go.Proofs.Ytgmnbpdfdagniaa.A
