/- The reference's search for the most steps, walked. No conditions. -/
import Derived.Test.YtgmnbpdfdagniaaL7
namespace Go.Proofs.Ytgmnbpdfdagniaa.A
open Go.RowKit Go.Proofs.YtgmnbpdfdagniaaW.PrintWords Go.Proofs.YtgmnbpdfdagniaaW.PrintLast Go.Proofs.YtgmnbpdfdagniaaW.PrintMore
set_option linter.unusedVariables false
set_option linter.unusedSimpArgs false
/-- How far a layer has come: the states behind it, the table of states that were seen, its count. -/
structure MsS where
  nx : List S57
  tb : List Int
  c : Int
def msSide (K : Nat) (l : Lnk) (ratio : Int) (now : List S57) (i : Int) (next : MsS → Option (Int × Bool)) : Nat → Int → MsS → Option (Int × Bool)
  | 0, _, _ => none
  | n + 1, side, s =>
    if side < 2 then
      if i < now.length then
        (nextF l ratio side (rd_T57 now i)).bind fun y =>
        if y.2 = true ∧ y.1.f8 < l.wd then
          (putF K s.tb s.c (keyK y.1)).bind fun p =>
          if p.1 = true then (if s.nx.length < 1099511627776 then msSide K l ratio now i next n (wrap64 (side + 1)) ⟨s.nx ++ [y.1], p.2.1, p.2.2⟩ else none)
          else msSide K l ratio now i next n (wrap64 (side + 1)) ⟨s.nx, p.2.1, p.2.2⟩
        else msSide K l ratio now i next n (wrap64 (side + 1)) s
      else none
    else next s
def msRow (K : Nat) (l : Lnk) (ratio : Int) (now : List S57) (next : MsS → Option (Int × Bool)) : Nat → Int → MsS → Option (Int × Bool)
  | 0, _, _ => none
  | n + 1, i, s => if i < now.length then if 1099511627776 ≤ i then none else msSide K l ratio now i (fun t => msRow K l ratio now next n (wrap64 (i + 1)) t) K 0 s else next s
def msN (K : Nat) (l : Lnk) (ratio : Int) : Nat → Int → List S57 → Option (Int × Bool)
  | 0, _, _ => none
  | k + 1, n, now => if n ≤ 600 then msRow K l ratio now (fun t => if t.nx.length = 0 then some (n, true) else msN K l ratio k (wrap64 (n + 1)) t.nx) K 0 ⟨[], [], 0⟩ else some (0, false)
theorem R57.keep {wr w' : World} {B : Nat} {ok : Nat → Prop} {v : Value} {xs : List S57} {T : Nat → Prop} (h : k57.R 57 wr B ok v xs) (k : KS T wr w') (hS : ∀ i cells, wr.heap[i]? = some (.cells cells 57 (0, 0)) → ok i → ¬ T i) : k57.R 57 w' B ok v xs :=
  Kd.R_mono (Kd.R_step (Kd.R_bound h) (fun i hi hlt => k.block i hlt (by
    obtain ⟨h1, _, _, q, hq, cells, hc⟩ := hi
    have hq' : q = 57 := by simpa [k57, Kd.iso, Kd.pair, Kd.int, Kd.scalar] using hq
    subst hq'
    exact hS i cells hc h1))) (fun _ h => h.1)
/-- What there is in memory while a layer is made. -/
structure MsI (w : World) (gl gs : Nat) (l : Lnk) (now : List S57) (s : MsS) (wr : World) (v6 v8 : Value) : Prop where
  now : k57.R 57 wr w.heap.size (fun k => v8.ownBlock ≠ some k) v6 now
  nx : k57.R 57 wr w.heap.size (fun _ => True) v8 s.nx
  tbx : ∃ vs, wr.heap[gs]? = some (boxS vs s.c) ∧ RI wr w.heap.size vs s.tb
  lb : wr.heap[gl]? = some (boxL l)
  bel : Below w.heap.size w wr
theorem MsI.below {w : World} {gl gs : Nat} {l : Lnk} {now : List S57} {s : MsS} {wr w' : World} {v6 v8 : Value} (h : MsI w gl gs l now s wr v6 v8) (hb : Below wr.heap.size wr w') : MsI w gl gs l now s w' v6 v8 := by
  obtain ⟨h1, h2, ⟨vs, h3, h4⟩, h5, h6⟩ := h
  exact ⟨Kd.R_below h1 hb, Kd.R_below h2 hb, ⟨vs, blk_below h3 hb, Kd.R_below h4 hb⟩, blk_below h5 hb, below_step h6 hb⟩
theorem cells_ty {w : World} {g t t' : Nat} {cs cs' : Array Value} {fr fr' : Nat × Nat} (h : w.heap[g]? = some (.cells cs t fr)) (h' : w.heap[g]? = some (.cells cs' t' fr')) : t = t' := by
  rw [h] at h'
  cases h'
  rfl
theorem MsI.put {w : World} {gl gs : Nat} {l : Lnk} {now : List S57} {s : MsS} {wr w' : World} {v6 v8 vs vs' : Value} {tb : List Int} {c : Int} (h : MsI w gl gs l now s wr v6 v8) (hbx : wr.heap[gs]? = some (boxS vs s.c)) (htb : RI wr w.heap.size vs s.tb) (hgs : w.heap.size ≤ gs)
    (hb' : w'.heap[gs]? = some (boxS vs' c)) (hr' : RI w' w.heap.size vs' tb) (hk : KS (fun i => i = gs ∨ vs.ownBlock = some i) wr w') : MsI w gl gs l now ⟨s.nx, tb, c⟩ w' v6 v8 := by
  have hno : ∀ i cells, wr.heap[i]? = some (.cells cells 57 (0, 0)) → ¬ (i = gs ∨ vs.ownBlock = some i) := by
    rintro i cells hc (e | e)
    · subst e; exact absurd (cells_ty hc hbx) (by decide)
    · obtain ⟨c2, h2⟩ := Kd.R_typed htb i e; exact absurd (cells_ty hc h2) (by decide)
  exact ⟨R57.keep h.now hk (fun i cells hc _ => hno i cells hc), R57.keep h.nx hk (fun i cells hc _ => hno i cells hc), ⟨vs', hb', hr'⟩,
    hk.keep h.lb (fun z => z.elim (fun e => by subst e; exact absurd (cells_ty h.lb hbx) (by decide)) (fun e => by obtain ⟨c2, h2⟩ := Kd.R_typed htb gl e; exact absurd (cells_ty h.lb h2) (by decide))),
    hk.low h.bel (fun i z => z.elim (fun e => by rw [e]; exact hgs) (fun e => Kd.R_base htb i e))⟩
theorem MsI.more {w : World} {gl gs : Nat} {l : Lnk} {now nx' : List S57} {s : MsS} {wr w1 : World} {v6 v8 v8' : Value} (h : MsI w gl gs l now s wr v6 v8) (ho : k57.R 57 w1 w.heap.size (fun _ => True) v8' nx') (hb : Below w.heap.size w w1) (hg : wr.grownBy w1 v8.ownBlock) (hat : v8'.ownBlock = v8.ownBlock ∨ ∃ b, v8'.ownBlock = some b ∧ wr.heap.size ≤ b) : MsI w gl gs l now ⟨nx', s.tb, s.c⟩ w1 v6 v8' := by
  obtain ⟨vs, h3, h4⟩ := h.tbx
  have k : KS (fun i => v8.ownBlock = some i) wr w1 := ⟨hb.os.trans h.bel.os.symm, hb.tape.trans h.bel.tape.symm, hb.output.trans h.bel.output.symm, hg.size, fun i hi hn => hg.block i hi (fun e => hn e.symm)⟩
  have h1 := Kd.R_bound h.now
  refine ⟨?_, ho, ⟨vs, blk_grown h3 hg (Kd.R_ne h.nx h3 (by decide)), Kd.R_over h4 h.nx (by decide) hg⟩, blk_grown h.lb hg (Kd.R_ne h.nx h.lb (by decide)), hb⟩
  refine Kd.R_mono (Kd.R_step h1 (fun i hi hlt => k.block i hlt (fun e => hi.1 e))) (fun i hi e => ?_)
  rcases hat with e2 | ⟨b, e2, hb2⟩
  · rw [e2] at e; exact hi.1 e
  · rw [e2] at e; cases e; have := hi.2.2.1; omega
set_option maxHeartbeats 6400000 in
set_option maxRecDepth 100000 in
theorem msN.calls (K : Nat) (l : Lnk) (ratio : Int) (r1 : Int) (r2 : Bool) (w : World) (hv : linkV l = true) (hr : ratioV ratio = true) (hs : (ansL l ratio true).2 = false) (hw : ¬ l.wd = 0) (h : msN K l ratio K 1 [x0K] = some (r1, r2)) :
    Calls Try.prog 21 #[.agg #[.int .i64 l.ph, .int .i64 l.sg, .int .i64 l.sk, .int .i64 l.wd], .int .i64 ratio] w fun e w' => e = .returned (.tuple #[.int .i64 r1, .bool r2]) ∧ Below w.heap.size w w' := by
  have H := Aside0.mk h
  have HV := Aside0.mk hv
  have HR := Aside0.mk hr
  have HS := Aside0.mk (show (!(ansL l ratio true).2) = true by rw [hs]; rfl)
  have HU := Aside0.mk Try.underlying57
  have hwb : (l.wd == 0) = false := beq_eq_false_iff_ne.2 hw
  have HWB := Aside0.mk hwb
  clear h hv hr hs hw
  go_enter Try.func21, Try.ntmps21
  go_wp2_with (first
    | ((with_reducible refine gate_dst (N := 2) rfl ?_); refine box_event ?hg (N := 2) ?hd (cs := #[.int .i64 l.ph, .int .i64 l.sg, .int .i64 l.sk, .int .i64 l.wd]) (t := 33) ?hr ?_; (case hd => rfl); (case hg => rfl); (case hr => first | (go_simp; done) | (go_simp; rfl)); intro gl hgl W1 hbox hb; have L1 := Aside0.mk (show W1.heap[gl]? = some (boxL l) from hbox); have B1 := Aside0.mk hb; clear hbox hb hgl)
    | (go_at_call 27; (with_reducible refine (valid_link gl l _ L1.out).mono ?_); rintro e w2 ⟨rfl, hb⟩; rw [HV.out]; have L2 := Aside0.mk (blk_below L1.out hb); have B2 := Aside0.mk (below_step B1.out hb); clear hb)
    | (go_at_call 28; (with_reducible refine (valid_ratio ratio _).mono ?_); rintro e w3 ⟨rfl, hb⟩; rw [HR.out]; have L3 := Aside0.mk (blk_below L2.out hb); have B3 := Aside0.mk (below_step B2.out hb); clear hb)
    | (go_at_call 34; (with_reducible refine (l05Safe_ans gl l ratio _ L3.out HV.out HR.out).mono ?_); rintro e w4 ⟨rfl, hb⟩; rw [HS.out]; have L4 := Aside0.mk (blk_below L3.out hb); have B4 := Aside0.mk (below_step B3.out hb); clear hb)
    | (go_at_call 36; (with_reducible refine (spec_l05Begin.calls 0 0 0 (-1) 0 0 0 0 0 0 2 0 _ rfl).mono ?_); rintro e w5 ⟨rfl, hb⟩; have L5 := Aside0.mk (blk_below L4.out hb); have B5 := Aside0.mk (below_step B4.out hb); clear hb)
    | ((with_reducible refine gate_dst (N := 27) rfl ?_); refine Kd.R_lit k57 w.heap.size 57 ?hg (N := 27) ?hd (w0 := w) (xs := [x0K]) (inner := [.int .i64 0, .int .i64 0, .int .i64 0, .int .i64 (-1), .int .i64 0, .int .i64 0, .int .i64 0, .int .i64 0, .int .i64 0, .int .i64 0, .int .i64 2, .int .i64 0]) (ok := fun _ => True) (okp := fun _ => True) ?hr ?hp (fun _ hk => hk) trivial B5.out B5.out.size (by simp) ?_; (case hd => rfl); (case hg => rfl); (case hr => first | (go_simp; done) | (go_simp; rfl)); (case hp => exact Reps.front (k57_mkM _ _ _ x0K) rfl (Reps.none _ _) rfl); intro v6 w6 ho hb hg_ hnew_; have L6 := Aside0.mk (blk_grown L5.out hg_ (by simp)); have B6 := Aside0.mk hb; have O6 := Aside0.mk ho; have l3 : w6.cell? ⟨gl, 3, none⟩ = some (.int .i64 l.wd) := (blk_cell L6.out 3).trans rfl; clear ho hb hg_ hnew_))
  clear l3 L1 L2 L3 L4 L5 B1 B2 B3 B4 B5
  go_loopg [6, 7] K (fun kq v6 v7 wr => ∃ (n : Int) (now : List S57), v7 = .int .i64 n ∧ Aside0 (msN K l ratio kq n now = some (r1, r2)) ∧ Aside0 (0 ≤ n) ∧ Aside0 (kq ≤ K) ∧ Aside0 (k57.R 57 wr w.heap.size (fun _ => True) v6 now) ∧ Aside0 (wr.heap[gl]? = some (boxL l)) ∧ Aside0 (Below w.heap.size w wr))
  case atStart => exact ⟨1, [x0K], rfl, H, ⟨by omega⟩, ⟨Nat.le_refl _⟩, O6, L6, B6⟩
  case round =>
    clear H O6 L6 B6
    obtain ⟨n, now, rfl, HA, HN0, HK0, HO, HL, HBE⟩ := hrel
    cases gk with
    | zero => exact absurd HA.out (by simp [msN])
    | succ k0 =>
      have hA := HA.out
      clear HA
      simp only [msN] at hA
      by_cases c0 : n ≤ 600
      · rw [if_pos c0] at hA
        have c0b : decide (n ≤ 600) = true := decide_eq_true c0
        have HC0 := Aside0.mk c0
        have HA := Aside0.mk hA
        clear hA c0
        go_wp2_with (first
          | ((with_reducible refine gate_dst (N := 35) rfl ?_); refine Kd.R_lit k57 w.heap.size 57 ?hg (N := 35) ?hd (w0 := w) (xs := ([] : List S57)) (inner := []) (ok := fun _ => True) (okp := fun _ => True) ?hr ?hp (fun _ hk => hk) trivial HBE.out HBE.out.size (by simp) ?_; (case hd => rfl); (case hg => rfl); (case hr => first | (go_simp; done) | (go_simp; rfl)); (case hp => exact (Reps.none _ _)); intro v8 w8 ho hb hg_ hnew_; have B8 := Aside0.mk hb; have O8 := Aside0.mk ho; have L8 := Aside0.mk (blk_grown HL.out hg_ (by simp)); have NW8 := Aside0.mk (show k57.R 57 w8 w.heap.size (fun k => v8.ownBlock ≠ some k) u6 now from Kd.R_mono (Kd.R_bound (Kd.R_bound HO.out |> fun h => Kd.R_grown h hg_ (fun _ _ => by simp))) (fun k hk e => by obtain ⟨b, e2, hb2⟩ := hnew_; rw [e2] at e; cases e; have h_ := hk.1.2.2.1; omega)); clear ho hb hg_ hnew_)
          | ((with_reducible refine gate_dst (N := 37) rfl ?_); refine box_event ?hg (N := 37) ?hd (cs := #[.slice none 0 0, .int .i64 0]) (t := 63) ?hr ?_; (case hd => rfl); (case hg => rfl); (case hr => first | (go_simp; done) | (go_simp; rfl)); intro gs hgs w9 hbox hb; have I9 := Aside0.mk (show MsI w gl gs l now ⟨[], [], 0⟩ w9 u6 v8 from ⟨Kd.R_below NW8.out hb, Kd.R_below O8.out hb, ⟨_, hbox, Kd.R_nil _ _ _ _ _⟩, blk_below L8.out hb, below_step B8.out hb⟩); have GS := Aside0.mk (show w.heap.size ≤ gs by rw [hgs]; exact B8.out.size); clear hb hbox hgs))
        obtain ⟨next, hnext⟩ : ∃ next, (fun (t : MsS) => if t.nx.length = 0 then some (n, true) else msN K l ratio k0 (wrap64 (n + 1)) t.nx) = next := ⟨_, rfl⟩
        have HNEXT := Aside0.mk hnext
        have HA2 := Aside0.mk (show msRow K l ratio now next K 0 ⟨[], [], 0⟩ = some (r1, r2) by rw [← hnext]; exact HA.out)
        clear hnext HA
        go_loopg [8, 10] K (fun kq v8 v10 wr => ∃ (i : Int) (s : MsS), v10 = .int .i64 i ∧ Aside0 (msRow K l ratio now next kq i s = some (r1, r2)) ∧ Aside0 (0 ≤ i) ∧ Aside0 (kq ≤ K) ∧ Aside0 (MsI w gl gs l now s wr u6 v8))
        case atStart => exact ⟨0, ⟨[], [], 0⟩, rfl, HA2, ⟨Int.le_refl _⟩, ⟨Nat.le_refl _⟩, I9⟩
        case round =>
          clear HA2 I9 B8 O8 L8 NW8 HO HL HBE
          obtain ⟨i, s, rfl, HA, HI0, HK1, HB⟩ := hrel
          cases gk with
          | zero => exact absurd HA.out (by simp [msRow])
          | succ k1 =>
            have hA := HA.out
            clear HA
            simp only [msRow] at hA
            obtain ⟨A6, p6, e6, hp6, hC6⟩ := Kd.R_reads HB.out.now
            have e6' : u6 = .slice A6 now.length p6 := e6
            subst e6'
            clear e6 hp6 hC6
            by_cases c1 : i < now.length
            · rw [if_pos c1] at hA
              have c1b : decide (i < (now.length : Int)) = true := decide_eq_true c1
              by_cases cl : 1099511627776 ≤ i
              · rw [if_pos cl] at hA; cases hA
              rw [if_neg cl] at hA
              have HI1 := Aside0.mk (show i < 1099511627776 by omega)
              have HC1 := Aside0.mk c1
              have HA := Aside0.mk hA
              clear hA cl c1
              go_wp2
              go_loopg [8, 11] K (fun kq v8 v11 wr => ∃ (side : Int) (s : MsS), v11 = .int .i64 side ∧ Aside0 (msSide K l ratio now i (fun t => msRow K l ratio now next k1 (wrap64 (i + 1)) t) kq side s = some (r1, r2)) ∧ Aside0 (kq ≤ K) ∧ Aside0 (MsI w gl gs l now s wr (.slice A6 now.length p6) v8))
              case atStart => exact ⟨0, s, rfl, HA, ⟨Nat.le_refl _⟩, HB⟩
              case round =>
                clear HA
                obtain ⟨side, s, rfl, HA, HK2, HB⟩ := hrel
                cases gk with
                | zero => exact absurd HA.out (by simp [msSide])
                | succ k2 =>
                  have hA := HA.out
                  clear HA
                  simp only [msSide] at hA
                  by_cases c2 : side < 2
                  · rw [if_pos c2] at hA
                    have c2b : decide (side < 2) = true := decide_eq_true c2
                    have c1 := HC1.out
                    rw [if_pos c1] at hA
                    obtain ⟨⟨y, ok⟩, hn, hA⟩ := Option.bind_eq_some_iff.1 hA
                    dsimp only at hA
                    have i0 : 0 ≤ i := HI0.out
                    obtain ⟨-, -, hC6⟩ := Kd.R_reads' HB.out.now
                    obtain ⟨A8, p8, rfl, hp8, hC8⟩ := Kd.R_reads HB.out.nx
                    obtain ⟨ad, rfl, hx0, hx1, hx2, hx3, hx4, hx5, hx6, hx7, hx8, hx9, hx10, hx11⟩ := at_T57 hC6 i i0 c1
                    obtain ⟨x, hx⟩ : ∃ x, rd_T57 now i = x := ⟨_, rfl⟩
                    rw [hx] at hx0 hx1 hx2 hx3 hx4 hx5 hx6 hx7 hx8 hx9 hx10 hx11 hn
                    obtain ⟨NX, hNX⟩ : ∃ NX, (fun t => msRow K l ratio now next k1 (wrap64 (i + 1)) t) = NX := ⟨_, rfl⟩
                    rw [hNX] at hA
                    have HNX := Aside0.mk hNX
                    have HN := Aside0.mk hn
                    have HA1 := Aside0.mk hA
                    clear hC6 hp8 hC8 hn hx hNX hA
                    cases ok with
                    | false =>
                      have hA := HA1.out
                      rw [if_neg (by simp)] at hA
                      have HA := Aside0.mk hA
                      clear hA HA1
                      go_wp2_with (first
                        | (go_at_call 37; (with_reducible refine (nextF.calls2 gl l ratio side x y _ _ ?hl HN.out).mono ?_); (case hl => exact HB.out.lb); rintro e w5 ⟨rfl, hb5⟩; have B5 := Aside0.mk hb5; clear hb5)
                        | ((with_reducible refine gate_dst (N := 12) rfl ?_); refine box_event ?hg (N := 12) ?hd (cs := #[.int .i64 0, .int .i64 0, .int .i64 0, .int .i64 0, .int .i64 0, .int .i64 0, .int .i64 0, .int .i64 0, .int .i64 0, .int .i64 0, .int .i64 0, .int .i64 0]) (t := 57) ?hr ?_; (case hd => rfl); (case hg => rfl); (case hr => first | (go_simp; done) | (go_simp; rfl)); intro gx hgx w6 hbox hb; have X6 := Aside0.mk hbox; have B6 := Aside0.mk (below_step B5.out hb); have GX := Aside0.mk (show wr.heap.size ≤ gx by rw [hgx]; exact B5.out.size); clear hbox hb hgx)
                        | ((with_reducible refine gate_store (t := 57) (p := 12) rfl ?_); refine store_row_event rfl rfl 57 (.tmp 12) (.tmp 56) rfl gx #[.int .i64 (y.f0), .int .i64 (y.f1), .int .i64 (y.f2), .int .i64 (y.f3), .int .i64 (y.f4), .int .i64 (y.f5), .int .i64 (y.f6), .int .i64 (y.f7), .int .i64 (y.f8), .int .i64 (y.f9), .int .i64 (y.f10), .int .i64 (y.f11)] rfl rfl 57 _ X6.out (by kernel_rfl) (by first | rfl | kernel_rfl) (by first | rfl | kernel_rfl | simp [Value.oneCell']) ?_; intro w7 hr7 hk7; have X7 := Aside0.mk (show w7.heap[gx]? = some (boxK y) from hr7); have B7 := Aside0.mk (hk7.low B6.out GX.out); have HB7 := Aside0.mk (MsI.below HB.out B7.out); have f8 : w7.cell? ⟨gx, 8, none⟩ = some (.int .i64 y.f8) := (blk_cell X7.out 8).trans rfl; have l3 : w7.cell? ⟨gl, 3, none⟩ = some (.int .i64 l.wd) := (blk_cell HB7.out.lb 3).trans rfl; clear hr7 hk7))
                      go_roundg k2
                      case measure => omega
                      case rel => exact ⟨_, _, rfl, by rw [← HNX.out] at HA; exact HA, ⟨by have := HK2.out; omega⟩, HB7⟩
                    | true =>
                      by_cases cw : y.f8 < l.wd
                      · have cwb : decide (y.f8 < l.wd) = true := decide_eq_true cw
                        have hA := HA1.out
                        rw [if_pos ⟨rfl, cw⟩] at hA
                        obtain ⟨⟨pr, tb2, c2'⟩, hp, hA⟩ := Option.bind_eq_some_iff.1 hA
                        dsimp only at hA
                        have HP := Aside0.mk hp
                        clear hp HA1 cw
                        cases pr with
                        | false =>
                          rw [if_neg (by decide)] at hA
                          have HA := Aside0.mk hA
                          clear hA
                          go_wp2_with (first
                            | (go_at_call 37; (with_reducible refine (nextF.calls2 gl l ratio side x y _ _ ?hl HN.out).mono ?_); (case hl => exact HB.out.lb); rintro e w5 ⟨rfl, hb5⟩; have B5 := Aside0.mk hb5; clear hb5)
                            | ((with_reducible refine gate_dst (N := 12) rfl ?_); refine box_event ?hg (N := 12) ?hd (cs := #[.int .i64 0, .int .i64 0, .int .i64 0, .int .i64 0, .int .i64 0, .int .i64 0, .int .i64 0, .int .i64 0, .int .i64 0, .int .i64 0, .int .i64 0, .int .i64 0]) (t := 57) ?hr ?_; (case hd => rfl); (case hg => rfl); (case hr => first | (go_simp; done) | (go_simp; rfl)); intro gx hgx w6 hbox hb; have X6 := Aside0.mk hbox; have B6 := Aside0.mk (below_step B5.out hb); have GX := Aside0.mk (show wr.heap.size ≤ gx by rw [hgx]; exact B5.out.size); clear hbox hb hgx)
                            | ((with_reducible refine gate_store (t := 57) (p := 12) rfl ?_); refine store_row_event rfl rfl 57 (.tmp 12) (.tmp 56) rfl gx #[.int .i64 (y.f0), .int .i64 (y.f1), .int .i64 (y.f2), .int .i64 (y.f3), .int .i64 (y.f4), .int .i64 (y.f5), .int .i64 (y.f6), .int .i64 (y.f7), .int .i64 (y.f8), .int .i64 (y.f9), .int .i64 (y.f10), .int .i64 (y.f11)] rfl rfl 57 _ X6.out (by kernel_rfl) (by first | rfl | kernel_rfl) (by first | rfl | kernel_rfl | simp [Value.oneCell']) ?_; intro w7 hr7 hk7; have X7 := Aside0.mk (show w7.heap[gx]? = some (boxK y) from hr7); have B7 := Aside0.mk (hk7.low B6.out GX.out); have HB7 := Aside0.mk (MsI.below HB.out B7.out); have f8 : w7.cell? ⟨gx, 8, none⟩ = some (.int .i64 y.f8) := (blk_cell X7.out 8).trans rfl; have l3 : w7.cell? ⟨gl, 3, none⟩ = some (.int .i64 l.wd) := (blk_cell HB7.out.lb 3).trans rfl; clear hr7 hk7)
                            | (go_at_call 39; (with_reducible refine (keyK.calls gx y _ ?hx).mono ?_); (case hx => exact X7.out); rintro e w8 ⟨rfl, hb8⟩; have X8 := Aside0.mk (blk_below X7.out hb8); have HB8 := Aside0.mk (MsI.below HB7.out hb8); obtain ⟨vs8, hbx8, htb8⟩ := HB8.out.tbx; have HBX8 := Aside0.mk hbx8; have HTB8 := Aside0.mk htb8; clear hb8 hbx8 htb8)
                            | (go_at_call 38; (with_reducible refine (putF.calls K gs s.tb s.c (keyK y) false tb2 c2' _ w.heap.size vs8 ?hB ?hb ?hR HP.out).mono ?_); (case hB => exact HB8.out.bel.size); (case hb => exact HBX8.out); (case hR => exact HTB8.out); rintro e w9 ⟨rfl, vs9, hb9, hR9, hK9⟩; have HB9 := Aside0.mk (MsI.put HB8.out HBX8.out HTB8.out GS.out hb9 hR9 hK9); have X9 := Aside0.mk (hK9.keep X8.out (fun z => z.elim (fun e => by have h_ := X8.out; rw [e, HBX8.out] at h_; simp [boxS, boxK] at h_) (fun e => by obtain ⟨_, h_⟩ := Kd.R_typed HTB8.out _ e; rw [X8.out] at h_; simp [boxK] at h_))); clear hb9 hR9 hK9))
                          go_roundg k2
                          case measure => omega
                          case rel => exact ⟨_, _, rfl, by rw [← HNX.out] at HA; exact HA, ⟨by have := HK2.out; omega⟩, HB9⟩
                        | true =>
                          rw [if_pos rfl] at hA
                          by_cases d3 : s.nx.length < 1099511627776
                          · rw [if_pos d3] at hA
                            have HD3 := Aside0.mk d3
                            have HA := Aside0.mk hA
                            clear hA d3
                            go_wp2_with (first
                              | (go_at_call 37; (with_reducible refine (nextF.calls2 gl l ratio side x y _ _ ?hl HN.out).mono ?_); (case hl => exact HB.out.lb); rintro e w5 ⟨rfl, hb5⟩; have B5 := Aside0.mk hb5; clear hb5)
                              | ((with_reducible refine gate_dst (N := 12) rfl ?_); refine box_event ?hg (N := 12) ?hd (cs := #[.int .i64 0, .int .i64 0, .int .i64 0, .int .i64 0, .int .i64 0, .int .i64 0, .int .i64 0, .int .i64 0, .int .i64 0, .int .i64 0, .int .i64 0, .int .i64 0]) (t := 57) ?hr ?_; (case hd => rfl); (case hg => rfl); (case hr => first | (go_simp; done) | (go_simp; rfl)); intro gx hgx w6 hbox hb; have X6 := Aside0.mk hbox; have B6 := Aside0.mk (below_step B5.out hb); have GX := Aside0.mk (show wr.heap.size ≤ gx by rw [hgx]; exact B5.out.size); clear hbox hb hgx)
                              | ((with_reducible refine gate_store (t := 57) (p := 12) rfl ?_); refine store_row_event rfl rfl 57 (.tmp 12) (.tmp 56) rfl gx #[.int .i64 (y.f0), .int .i64 (y.f1), .int .i64 (y.f2), .int .i64 (y.f3), .int .i64 (y.f4), .int .i64 (y.f5), .int .i64 (y.f6), .int .i64 (y.f7), .int .i64 (y.f8), .int .i64 (y.f9), .int .i64 (y.f10), .int .i64 (y.f11)] rfl rfl 57 _ X6.out (by kernel_rfl) (by first | rfl | kernel_rfl) (by first | rfl | kernel_rfl | simp [Value.oneCell']) ?_; intro w7 hr7 hk7; have X7 := Aside0.mk (show w7.heap[gx]? = some (boxK y) from hr7); have B7 := Aside0.mk (hk7.low B6.out GX.out); have HB7 := Aside0.mk (MsI.below HB.out B7.out); have f8 : w7.cell? ⟨gx, 8, none⟩ = some (.int .i64 y.f8) := (blk_cell X7.out 8).trans rfl; have l3 : w7.cell? ⟨gl, 3, none⟩ = some (.int .i64 l.wd) := (blk_cell HB7.out.lb 3).trans rfl; clear hr7 hk7)
                              | (go_at_call 39; (with_reducible refine (keyK.calls gx y _ ?hx).mono ?_); (case hx => exact X7.out); rintro e w8 ⟨rfl, hb8⟩; have X8 := Aside0.mk (blk_below X7.out hb8); have HB8 := Aside0.mk (MsI.below HB7.out hb8); obtain ⟨vs8, hbx8, htb8⟩ := HB8.out.tbx; have HBX8 := Aside0.mk hbx8; have HTB8 := Aside0.mk htb8; clear hb8 hbx8 htb8)
                              | (go_at_call 38; (with_reducible refine (putF.calls K gs s.tb s.c (keyK y) true tb2 c2' _ w.heap.size vs8 ?hB ?hb ?hR HP.out).mono ?_); (case hB => exact HB8.out.bel.size); (case hb => exact HBX8.out); (case hR => exact HTB8.out); rintro e w9 ⟨rfl, vs9, hb9, hR9, hK9⟩; have HB9 := Aside0.mk (MsI.put HB8.out HBX8.out HTB8.out GS.out hb9 hR9 hK9); have X9 := Aside0.mk (hK9.keep X8.out (fun z => z.elim (fun e => by have h_ := X8.out; rw [e, HBX8.out] at h_; simp [boxS, boxK] at h_) (fun e => by obtain ⟨_, h_⟩ := Kd.R_typed HTB8.out _ e; rw [X8.out] at h_; simp [boxK] at h_))); clear hb9 hR9 hK9)
                              | ((with_reducible refine gate_dst (N := 72) rfl ?_); refine load_row_event rfl 57 (.tmp 12) rfl gx rfl 57 #[.int .i64 (y.f0), .int .i64 (y.f1), .int .i64 (y.f2), .int .i64 (y.f3), .int .i64 (y.f4), .int .i64 (y.f5), .int .i64 (y.f6), .int .i64 (y.f7), .int .i64 (y.f8), .int .i64 (y.f9), .int .i64 (y.f10), .int .i64 (y.f11)] _ X9.out HU.out rfl (by kernel_rfl) ?_)
                              | ((with_reducible refine gate_builtin (b := .append) (xs := #[.tmp 71, .tmp 73]) rfl ?_); at_builtin; refine Kd.R_append k57 (w0 := w) w.heap.size rfl (.tmp 71) (.tmp 73) 59 57 (.agg #[.int .i64 0, .int .i64 0, .int .i64 0, .int .i64 0, .int .i64 0, .int .i64 0, .int .i64 0, .int .i64 0, .int .i64 0, .int .i64 0, .int .i64 0, .int .i64 0]) 96 rfl Try.underlying59 info57 rfl (by decide) (by omega) (.slice A8 s.nx.length p8) s.nx y [.int .i64 (y.f0), .int .i64 (y.f1), .int .i64 (y.f2), .int .i64 (y.f3), .int .i64 (y.f4), .int .i64 (y.f5), .int .i64 (y.f6), .int .i64 (y.f7), .int .i64 (y.f8), .int .i64 (y.f9), .int .i64 (y.f10), .int .i64 (y.f11)] (fun _ => True) (fun _ => False) rfl rfl ?aP (fun _ hk => hk.elim) ?aF ?aO ?aB ?aS ?aL ?_; (case aP => exact k57_mkM _ _ _ y); (case aF => exact (fun _ _ => trivial)); (case aO => exact HB9.out.nx); (case aB => exact HB9.out.bel); (case aS => exact HB9.out.bel.size); (case aL => have := HD3.out; omega); intro v10 w12 ho hb hg hat; have HB12 := Aside0.mk (MsI.more HB9.out ho hb hg hat); clear ho hb hg hat))
                            go_roundg k2
                            case measure => omega
                            case rel => exact ⟨_, _, rfl, by rw [← HNX.out] at HA; exact HA, ⟨by have := HK2.out; omega⟩, HB12⟩
                          · rw [if_neg d3] at hA; cases hA
                      · have cwb : decide (y.f8 < l.wd) = false := decide_eq_false cw
                        have hA := HA1.out
                        rw [if_neg (fun z => cw z.2)] at hA
                        have HA := Aside0.mk hA
                        clear hA HA1 cw
                        go_wp2_with (first
                          | (go_at_call 37; (with_reducible refine (nextF.calls2 gl l ratio side x y _ _ ?hl HN.out).mono ?_); (case hl => exact HB.out.lb); rintro e w5 ⟨rfl, hb5⟩; have B5 := Aside0.mk hb5; clear hb5)
                          | ((with_reducible refine gate_dst (N := 12) rfl ?_); refine box_event ?hg (N := 12) ?hd (cs := #[.int .i64 0, .int .i64 0, .int .i64 0, .int .i64 0, .int .i64 0, .int .i64 0, .int .i64 0, .int .i64 0, .int .i64 0, .int .i64 0, .int .i64 0, .int .i64 0]) (t := 57) ?hr ?_; (case hd => rfl); (case hg => rfl); (case hr => first | (go_simp; done) | (go_simp; rfl)); intro gx hgx w6 hbox hb; have X6 := Aside0.mk hbox; have B6 := Aside0.mk (below_step B5.out hb); have GX := Aside0.mk (show wr.heap.size ≤ gx by rw [hgx]; exact B5.out.size); clear hbox hb hgx)
                          | ((with_reducible refine gate_store (t := 57) (p := 12) rfl ?_); refine store_row_event rfl rfl 57 (.tmp 12) (.tmp 56) rfl gx #[.int .i64 (y.f0), .int .i64 (y.f1), .int .i64 (y.f2), .int .i64 (y.f3), .int .i64 (y.f4), .int .i64 (y.f5), .int .i64 (y.f6), .int .i64 (y.f7), .int .i64 (y.f8), .int .i64 (y.f9), .int .i64 (y.f10), .int .i64 (y.f11)] rfl rfl 57 _ X6.out (by kernel_rfl) (by first | rfl | kernel_rfl) (by first | rfl | kernel_rfl | simp [Value.oneCell']) ?_; intro w7 hr7 hk7; have X7 := Aside0.mk (show w7.heap[gx]? = some (boxK y) from hr7); have B7 := Aside0.mk (hk7.low B6.out GX.out); have HB7 := Aside0.mk (MsI.below HB.out B7.out); have f8 : w7.cell? ⟨gx, 8, none⟩ = some (.int .i64 y.f8) := (blk_cell X7.out 8).trans rfl; have l3 : w7.cell? ⟨gl, 3, none⟩ = some (.int .i64 l.wd) := (blk_cell HB7.out.lb 3).trans rfl; clear hr7 hk7))
                        go_roundg k2
                        case measure => omega
                        case rel => exact ⟨_, _, rfl, by rw [← HNX.out] at HA; exact HA, ⟨by have := HK2.out; omega⟩, HB7⟩
                  · rw [if_neg c2] at hA
                    have c2b : decide (side < 2) = false := decide_eq_false c2
                    have HA := Aside0.mk hA
                    clear hA c2
                    go_wp2
                    go_roundg k1
                    case measure => omega
                    case rel => exact ⟨_, _, rfl, HA, ⟨by have h1_ := HI0.out; have h2_ := HI1.out; unfold wrap64; omega⟩, ⟨by have := HK1.out; omega⟩, HB⟩
            · rw [if_neg c1] at hA
              have c1b : decide (i < (now.length : Int)) = false := decide_eq_false c1
              rw [← HNEXT.out] at hA
              dsimp only at hA
              obtain ⟨A8, p8, e8, hp8, hC8⟩ := Kd.R_reads HB.out.nx
              have e8' : u8 = .slice A8 s.nx.length p8 := e8
              subst e8'
              clear e8 hp8 hC8 c1
              by_cases c3 : s.nx.length = 0
              · rw [if_pos c3] at hA
                have c3b : (s.nx.length == 0) = true := beq_iff_eq.2 c3
                have c3c : ((s.nx.length : Int) == 0) = true := by rw [c3]; rfl
                have hr := Option.some.inj hA
                injection hr with e1 e2
                subst e1
                subst e2
                clear hA
                go_wp2
                go_ret2
                exact ⟨rfl, HB.out.bel⟩
              · rw [if_neg c3] at hA
                have c3b : (s.nx.length == 0) = false := beq_eq_false_iff_ne.2 c3
                have c3c : ((s.nx.length : Int) == 0) = false := beq_eq_false_iff_ne.2 (by omega)
                have HA := Aside0.mk hA
                clear hA
                go_wp2
                go_roundg k0
                case measure => omega
                case rel => exact ⟨_, _, rfl, HA, ⟨by have h1_ := HN0.out; have h2_ := HC0.out; unfold wrap64; omega⟩, ⟨by have := HK0.out; omega⟩, ⟨HB.out.nx⟩, ⟨HB.out.lb⟩, ⟨HB.out.bel⟩⟩
      · rw [if_neg c0] at hA
        have c0b : decide (n ≤ 600) = false := decide_eq_false c0
        have hr := Option.some.inj hA
        injection hr with e1 e2
        subst e1
        subst e2
        clear hA c0
        go_wp2
        go_ret2
        exact ⟨rfl, HBE.out⟩
end Go.Proofs.Ytgmnbpdfdagniaa.A
