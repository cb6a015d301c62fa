/- The reference's search for a broken queue. No conditions. -/
import Derived.Test.YtgmnbpdfdagniaaZ24
import Derived.Test.YtgmnbpdfdagniaaZ22
namespace Go.Proofs.Ytgmnbpdfdagniaa.A
open Go.RowKit Go.Proofs.YtgmnbpdfdagniaaW.PrintWords Go.Proofs.YtgmnbpdfdagniaaW.PrintLast Go.Proofs.YtgmnbpdfdagniaaW.PrintMore
set_option linter.unusedVariables false
set_option linter.unusedSimpArgs false
/-- How far the search has come: states, their orders, the table of states that were seen, its count. -/
structure BrS where
  st : List S73
  ord : List ByteArray
  tb : List Int
  c : Int
def keyOf (x : S73) : Int :=
  wrap64 (wrap64 (8 * wrap64 (wrap64 (8 * wrap64 (wrap64 (8 * wrap64 (wrap64 (8 * wrap64 (wrap64 (8 * wrap64 (wrap64 (8 * wrap64 (wrap64 (8 * 0) + x.f0)) + x.f1)) + x.f2)) + x.f3)) + x.f4)) + x.f5)) + x.f6)
def stepQ (K : Nat) (q0 q1 side : Int) (x : S73) (old : Int) : Option S73 := if side = 1 then spec_l05Write.f K q0 q1 x old else spec_l05Read.f K q0 q1 x old
def brOld (K : Nat) (q0 q1 i side bits : Int) (next : BrS → Option (ByteArray × Bool)) : Nat → Int → BrS → Option (ByteArray × Bool)
  | 0, _, _ => none
  | n + 1, old, s =>
    if 0 ≤ old then
      if Go.bits .andNot .i64 old bits = 0 then
        if i < s.st.length ∧ i < s.ord.length then
          (stepQ K q0 q1 side (rd_T73 s.st i) old).bind fun y =>
          (spec_l05Letter.f side).bind fun l =>
          if (rdOf ByteArray.empty s.ord i ++ l).size ≤ 9223372036854775807 ∧ s.st.length < 1099511627776 ∧ s.ord.length < 1099511627776 then
            if 0 ≤ y.f4 ∧ y.f4 ≤ q0 then
              (putF K s.tb s.c (keyOf y)).bind fun p =>
              brOld K q0 q1 i side bits next n (wrap64 (old - 1)) (if p.1 then ⟨s.st ++ [y], s.ord ++ [rdOf ByteArray.empty s.ord i ++ l], p.2.1, p.2.2⟩ else ⟨s.st, s.ord, p.2.1, p.2.2⟩)
            else some (rdOf ByteArray.empty s.ord i ++ l, true)
          else none
        else none
      else brOld K q0 q1 i side bits next n (wrap64 (old - 1)) s
    else next s
def brSide (K : Nat) (q0 q1 i : Int) (next : BrS → Option (ByteArray × Bool)) : Nat → Int → BrS → Option (ByteArray × Bool)
  | 0, _, _ => none
  | n + 1, side, s =>
    if side < 2 then
      if i < s.st.length then
        brOld K q0 q1 i side (if side = 1 then (rd_T73 s.st i).f6 else (rd_T73 s.st i).f5) (fun t => brSide K q0 q1 i next n (wrap64 (side + 1)) t) K (if side = 1 then (rd_T73 s.st i).f6 else (rd_T73 s.st i).f5) s
      else none
    else next s
def brRow (K : Nat) (q0 q1 : Int) : Nat → Int → BrS → Option (ByteArray × Bool)
  | 0, _, _ => none
  | n + 1, i, s => if i < s.st.length then if 1099511627776 ≤ i then none else brSide K q0 q1 i (fun t => brRow K q0 q1 n (wrap64 (i + 1)) t) K 0 s else some (ByteArray.empty, false)
def brF (K : Nat) (q0 q1 : Int) : Option (ByteArray × Bool) := brRow K q0 q1 K 0 ⟨[z73], [ByteArray.empty], [], 0⟩
/-- What there is in memory while it searches. -/
def BrI (w : World) (gs : Nat) (s : BrS) (wr : World) (v4 v5 : Value) : Prop :=
  ∃ vs, k73.R 73 wr w.heap.size (fun _ => True) v4 s.st ∧ Kd.string.R 9 wr w.heap.size (fun _ => True) v5 s.ord ∧ wr.heap[gs]? = some (boxS vs s.c) ∧ RI wr w.heap.size vs s.tb ∧ Below w.heap.size w wr
theorem BrI.below {w : World} {gs : Nat} {s : BrS} {wr w' : World} {v4 v5 : Value} (h : BrI w gs s wr v4 v5) (hb : Below wr.heap.size wr w') : BrI w gs s w' v4 v5 := by
  obtain ⟨vs, h4, h5, hbx, htb, hbel⟩ := h
  exact ⟨vs, Kd.R_below h4 hb, Kd.R_below h5 hb, blk_below hbx hb, Kd.R_below htb hb, below_step hbel hb⟩
theorem KB.new {a b : World} {o : Obj} (h : KB a.heap.size (a.alloc o) b) : Below a.heap.size a b :=
  ⟨h.os, h.tape, h.output, Nat.le_trans (by rw [World.size_alloc]; omega) h.size, fun i hi => (h.block i (by rw [World.size_alloc]; omega) (by omega)).trans (Below.heap_alloc a o i hi)⟩
theorem R_ne_R {α β : Type} {d : Kd α} {d' : Kd β} {e e' b b' : Nat} {ok ok' : Nat → Prop} {w : World} {v v' : Value} {xs : List α} {ys : List β} (h : d.R e w b ok v xs) (h' : d'.R e' w b' ok' v' ys) (ht : e ≠ e') : ∀ k, v.ownBlock = some k → v'.ownBlock ≠ some k := by
  intro k hk hk'
  obtain ⟨c1, h1⟩ := Kd.R_typed h k hk
  obtain ⟨c2, h2⟩ := Kd.R_typed h' k hk'
  rw [h1] at h2
  simp at h2
  exact ht h2.2
theorem BrI.put {w : World} {gs : Nat} {s : BrS} {wr w' : World} {v4 v5 vs vs' : Value} {tb : List Int} {c : Int} (h4 : k73.R 73 wr w.heap.size (fun _ => True) v4 s.st) (h5 : Kd.string.R 9 wr w.heap.size (fun _ => True) v5 s.ord) (hbx : wr.heap[gs]? = some (boxS vs s.c)) (htb : RI wr w.heap.size vs s.tb) (hbel : Below w.heap.size w wr) (hgs : w.heap.size ≤ gs)
    (hb' : w'.heap[gs]? = some (boxS vs' c)) (hr' : RI w' w.heap.size vs' tb) (hk : KS (fun i => i = gs ∨ vs.ownBlock = some i) wr w') : BrI w gs ⟨s.st, s.ord, tb, c⟩ w' v4 v5 :=
  ⟨vs', Kd.R_mono (Kd.R_step (Kd.R_tight rfl h4) (fun k hk1 hlt => hk.block k hlt (fun z => z.elim (fun e => Kd.R_ne h4 hbx (by decide) (by rw [← e]; exact hk1)) (R_ne_R h4 htb (by decide) k hk1.symm)))) (fun _ _ => trivial),
   Kd.R_mono (Kd.R_step (Kd.R_tight rfl h5) (fun k hk1 hlt => hk.block k hlt (fun z => z.elim (fun e => Kd.R_ne h5 hbx (by decide) (by rw [← e]; exact hk1)) (R_ne_R h5 htb (by decide) k hk1.symm)))) (fun _ _ => trivial),
   hb', hr', hk.low hbel (fun i z => z.elim (fun e => by rw [e]; exact hgs) (fun e => Kd.R_base htb i e))⟩
def keyL (xs : List Int) : Int := xs.foldl (fun k p => wrap64 (wrap64 (8 * k) + p)) 0
theorem keyL_next (xs : List Int) (k : Nat) (h : k < xs.length) : keyL (xs.take (k + 1)) = wrap64 (wrap64 (8 * keyL (xs.take k)) + rd xs (k : Int)) := by
  unfold keyL
  rw [List.take_succ_eq_append_getElem h, List.foldl_append]
  simp [rd, h]
theorem infoStr : (Try.prog.info? 9).map (fun i => (i.zero, i.size, i.bytes)) = some (some (.string ByteArray.empty), 1, 16) := by kernel_rfl
set_option maxHeartbeats 6400000 in
set_option maxRecDepth 100000 in
theorem brF.calls (K g : Nat) (q0 q1 : Int) (r1 : ByteArray) (r2 : Bool) (w : World) (hq : w.heap[g]? = some (boxQ q0 q1)) (h : brF K q0 q1 = some (r1, r2)) :
    Calls Try.prog 24 #[.pointer (some ⟨g, 0, none⟩)] w fun e w' => e = .returned (.tuple #[.string r1, .bool r2]) ∧ Below w.heap.size w w' := by
  have HQ := Aside0.mk hq
  have H := Aside0.mk h
  have hu73 := Try.underlying73
  have hu63 := Try.underlying63
  clear hq h
  go_enter Try.func24, Try.ntmps24
  go_wp2_with (first
    | ((with_reducible refine gate_dst (N := 17) rfl ?_); refine Kd.R_lit k73 w.heap.size 73 ?hg (N := 17) ?hd (xs := [z73]) (inner := [.int .i64 0, .int .i64 0, .int .i64 0, .int .i64 0, .int .i64 0, .int .i64 0, .int .i64 0]) (ok := fun _ => True) (okp := fun _ => True) ?hr ?hp (fun _ hk => hk) trivial (Below.refl _ _) (Nat.le_refl _) (by simp) ?_; (case hd => rfl); (case hg => rfl); (case hr => first | (go_simp; done) | (go_simp; rfl)); (case hp => exact Reps.c7 (k73_mkM _ _ _ z73) (Reps.none _ _)); intro v1 w1 ho hb hg_ hnew_; have B1 := Aside0.mk hb; have O1 := Aside0.mk ho; clear ho hb hg_ hnew_)
    | ((with_reducible refine gate_dst (N := 18) rfl ?_); refine Kd.R_lit Kd.string w.heap.size 9 ?hg (N := 18) ?hd (w0 := w) (xs := [ByteArray.empty]) (inner := [.string ByteArray.empty]) (ok := fun _ => True) (okp := fun _ => True) ?hr ?hp (fun _ hk => hk) trivial B1.out B1.out.size (by simp) ?_; (case hd => rfl); (case hg => rfl); (case hr => first | (go_simp; done) | (go_simp; rfl)); (case hp => exact Reps.one rfl (Reps.none _ _)); intro v2 w2 ho hb hg_ hnew_; have B2 := Aside0.mk hb; have O2 := Aside0.mk ho; have O1b := Aside0.mk (Kd.R_grown O1.out hg_ (fun _ _ => by simp)); clear ho hb hg_ hnew_)
    | ((with_reducible refine gate_dst (N := 20) rfl ?_); refine box_event ?hg (N := 20) ?hd (cs := #[.slice none 0 0, .int .i64 0]) (t := 63) ?hr ?_; (case hd => rfl); (case hg => rfl); (case hr => first | (go_simp; done) | (go_simp; rfl)); intro gs hg w3 hbox hb; have B3 := Aside0.mk (below_step B2.out hb); have BX := Aside0.mk hbox; have O1c := Aside0.mk (Kd.R_below O1b.out hb); have O2c := Aside0.mk (Kd.R_below O2.out hb); have GS := Aside0.mk (show w.heap.size ≤ gs by rw [hg]; exact B2.out.size); clear hb hbox hg))
  go_loopg [4, 5, 7] K (fun kq v4 v5 v7 wr => ∃ (i : Int) (s : BrS), v7 = .int .i64 i ∧ Aside0 (brRow K q0 q1 kq i s = some (r1, r2)) ∧ Aside0 (0 ≤ i) ∧ Aside0 (kq ≤ K) ∧ Aside0 (BrI w gs s wr v4 v5))
  case atStart => exact ⟨0, ⟨[z73], [ByteArray.empty], [], 0⟩, rfl, H, ⟨Int.le_refl _⟩, ⟨Nat.le_refl _⟩, ⟨_, O1c.out, O2c.out, BX.out, Kd.R_nil _ _ _ _ _, B3.out⟩⟩
  case round =>
    obtain ⟨i, s, rfl, HA, HI0, HK1, HB⟩ := hrel
    cases gk with
    | zero => exact absurd HA.out (by simp [brRow])
    | succ k1 =>
      have hA := HA.out
      clear HA
      simp only [brRow] at hA
      obtain ⟨vs, h4, h5, hbx, htb, hbel⟩ := HB.out
      obtain ⟨A4, p4, rfl, hp4, hC4⟩ := Kd.R_reads h4
      by_cases c1 : i < s.st.length
      · rw [if_pos c1] at hA
        have c1b : decide (i < (s.st.length : Int)) = true := decide_eq_true c1
        by_cases cl : 1099511627776 ≤ i
        · rw [if_pos cl] at hA; cases hA
        rw [if_neg cl] at hA
        have HI1 := Aside0.mk (show i < 1099511627776 by omega)
        clear cl
        have HA := Aside0.mk hA
        clear hA h4 h5 hbx htb hbel hp4 hC4 c1
        go_wp2
        go_loopg [4, 5, 8] K (fun kq v4 v5 v8 wr => ∃ (side : Int) (s : BrS), v8 = .int .i64 side ∧ Aside0 (brSide K q0 q1 i (fun t => brRow K q0 q1 k1 (wrap64 (i + 1)) t) kq side s = some (r1, r2)) ∧ Aside0 (kq ≤ K) ∧ Aside0 (BrI w gs s wr v4 v5))
        case atStart => exact ⟨0, s, rfl, HA, ⟨Nat.le_refl _⟩, HB⟩
        case round =>
          clear HA
          obtain ⟨side, s, rfl, HA, HK2, HB⟩ := hrel
          cases gk with
          | zero => exact absurd HA.out (by simp [brSide])
          | succ k2 =>
            have hA := HA.out
            clear HA
            simp only [brSide] at hA
            obtain ⟨vs, h4, h5, hbx, htb, hbel⟩ := HB.out
            obtain ⟨A4, p4, rfl, hp4, hC4⟩ := Kd.R_reads h4
            by_cases c2 : side < 2
            · rw [if_pos c2] at hA
              have c2b : decide (side < 2) = true := decide_eq_true c2
              by_cases c1 : i < s.st.length
              · rw [if_pos c1] at hA
                have c1b : decide (i < (s.st.length : Int)) = true := decide_eq_true c1
                have i0 : 0 ≤ i := HI0.out
                have i1 : i < (s.st.length : Int) := c1
                obtain ⟨ad, rfl, hx0, hx1, hx2, hx3, hx4, hx5, hx6⟩ := at_T73 hC4 i i0 i1
                by_cases c3 : side = 1
                · rw [if_pos c3] at hA
                  have c3b : (side == 1) = true := beq_iff_eq.2 c3
                  obtain ⟨bits, hbits⟩ : ∃ b, (rd_T73 s.st i).f6 = b := ⟨_, rfl⟩
                  rw [hbits] at hA hx6
                  obtain ⟨NX, hNX⟩ : ∃ NX, (fun t => brSide K q0 q1 i (fun t => brRow K q0 q1 k1 (wrap64 (i + 1)) t) k2 (wrap64 (side + 1)) t) = NX := ⟨_, rfl⟩
                  rw [hNX] at hA
                  have HNX := Aside0.mk hNX
                  have HC3 := Aside0.mk c3
                  have HA := Aside0.mk hA
                  clear hA h4 h5 hbx htb hbel hp4 hC4 c1 hbits hNX c3
                  go_wp2
                  go_loopg [4, 5, 10] K (fun kq v4 v5 v10 wr => ∃ (old : Int) (s : BrS), v10 = .int .i64 old ∧ Aside0 (brOld K q0 q1 i side bits NX kq old s = some (r1, r2)) ∧ Aside0 (kq ≤ K) ∧ Aside0 (BrI w gs s wr v4 v5))
                  case atStart => exact ⟨bits, s, rfl, HA, ⟨Nat.le_refl _⟩, HB⟩
                  case round =>
                    clear HA
                    obtain ⟨old, s, rfl, HA, HK3, HB⟩ := hrel
                    cases gk with
                    | zero => exact absurd HA.out (by simp [brOld])
                    | succ k3 =>
                      have hA := HA.out
                      clear HA
                      simp only [brOld] at hA
                      obtain ⟨vs, h4, h5, hbx, htb, hbel⟩ := HB.out
                      obtain ⟨A4, p4, rfl, hp4, hC4⟩ := Kd.R_reads h4
                      obtain ⟨A5, p5, rfl, hp5, hC5⟩ := Kd.R_reads h5
                      by_cases d0 : 0 ≤ old
                      · rw [if_pos d0] at hA
                        have d0b := decide_eq_true d0
                        by_cases d1 : Go.bits .andNot .i64 old bits = 0
                        · rw [if_pos d1] at hA
                          by_cases d2 : i < s.st.length ∧ i < s.ord.length
                          · rw [if_pos d2] at hA
                            obtain ⟨i1, i2⟩ := d2
                            replace hA := Option.bind_eq_some_iff.1 hA
                            obtain ⟨y, hy, hA⟩ := hA
                            replace hA := Option.bind_eq_some_iff.1 hA
                            obtain ⟨l, hl, hA⟩ := hA
                            obtain ⟨ad, rfl, hx0, hx1, hx2, hx3, hx4, hx5, hx6⟩ := at_T73 hC4 i i0 i1
                            obtain ⟨ae, rfl, hz0⟩ := Kd.at_string hC5 i i0 i2
                            obtain ⟨x, hx⟩ : ∃ x, rd_T73 s.st i = x := ⟨_, rfl⟩
                            obtain ⟨od, hod⟩ : ∃ od, rdOf ByteArray.empty s.ord i = od := ⟨_, rfl⟩
                            rw [hx] at hx0 hx1 hx2 hx3 hx4 hx5 hx6 hy
                            rw [hod] at hz0 hA
                            by_cases d3 : (od ++ l).size ≤ 9223372036854775807 ∧ s.st.length < 1099511627776 ∧ s.ord.length < 1099511627776
                            · rw [if_pos d3] at hA
                              have HD3 := Aside0.mk d3
                              have HY := Aside0.mk (show spec_l05Write.f K q0 q1 x old = some y by rw [← hy]; unfold stepQ; rw [if_pos HC3.out])
                              have HL := Aside0.mk hl
                              have HQr := Aside0.mk (blk_below HQ.out hbel)
                              have hs1 : decide ((od ++ l).size ≤ 9223372036854775807) = true := decide_eq_true d3.1
                              have hs2 := hs1; (try simp only [ByteArray.size_append] at hs2); have hs3 := of_decide_eq_true hs2; have hs4 := eq_true hs3; have hs5 := eq_false (Nat.not_lt.2 hs3)
                              have hOD : ∀ W, Below wr.heap.size wr W → W.cell? (ae.add i.toNat) = some (.string od) := fun W hW => (hW.cell (World.block_lt_of_cell? wr _ hz0)).trans hz0
                              have HOD := Aside0.mk hOD
                              clear h4 h5 hbx htb hbel hp4 hC4 hp5 hC5 d3 hy hl hx hod d0 hOD
                              by_cases d4 : 0 ≤ y.f4 ∧ y.f4 ≤ q0
                              · rw [if_pos d4] at hA
                                have HI := Aside0.mk (show spec_l00In.f y.f4 0 q0 = some true by unfold spec_l00In.f; rw [if_pos d4.1, decide_eq_true d4.2])
                                replace hA := Option.bind_eq_some_iff.1 hA
                                obtain ⟨⟨pr, tb2, c2'⟩, hp, hA⟩ := hA
                                dsimp only at hA
                                have HP := Aside0.mk hp
                                have HA := Aside0.mk hA
                                clear hA d4 hp
                                go_wp2_with (first
                                  | (go_at_call 43; (with_reducible refine (spec_l05Write.calls K g wr.heap.size q0 q1 x old y _ ?hq ?hx HY.out).mono ?_); (case hq => exact blk_alloc HQr.out _); (case hx => exact blk_new wr _); rintro e w5 ⟨rfl, hb5, hk5⟩; have X5 := Aside0.mk hb5; have B5 := Aside0.mk (KB.new hk5); have HB5 := Aside0.mk (BrI.below HB.out B5.out); have hz5 := HOD.out w5 B5.out; have QQ5 := Aside0.mk (blk_below HQr.out B5.out); obtain ⟨q5a, q5b⟩ := q_cells QQ5.out; obtain ⟨x0, x1, x2, x3, x4, x5, x6⟩ := x_cells X5.out; clear hb5 hk5))
                                go_quiet (first
                                  | ((go_at_call 45; exact Calls.quiet_of ((spec_l05Letter.calls side l _ HL.out).mono fun e W hh => ⟨hh.1, drawn_quiet hh.2⟩))))
                                go_wp2
                                obtain ⟨w6, hw6⟩ : ∃ w6, w5.drewN nq = w6 := ⟨_, rfl⟩
                                rw [hw6]
                                have X6 := Aside0.mk (show w6.heap[wr.heap.size]? = some (boxX y) by rw [← hw6]; exact X5.out)
                                have QQ6 := Aside0.mk (show w6.heap[g]? = some (boxQ q0 q1) by rw [← hw6]; exact QQ5.out)
                                have HB6 := Aside0.mk (show BrI w gs s w6 _ _ by rw [← hw6]; exact BrI.below HB5.out (pw_below_drewN (Below.refl _ _) nq))
                                clear hz5 q5a q5b x0 x1 x2 x3 x4 x5 x6 hw6
                                obtain ⟨q5a, q5b⟩ := q_cells QQ6.out
                                obtain ⟨x0, x1, x2, x3, x4, x5, x6⟩ := x_cells X6.out
                                go_quiet (first
                                  | ((go_at_call 42; exact Calls.quiet_of ((spec_l00In.calls y.f4 0 q0 true _ HI.out).mono fun e W hh => ⟨hh.1, drawn_quiet hh.2⟩))))
                                go_wp2_with (first
                                  | ((with_reducible refine gate_dst (N := 94) rfl ?_); refine Kd.R_lit (Kd.int .i64) w.heap.size 2 ?hg (N := 94) ?hd (w0 := w) (xs := [y.f0, y.f1, y.f2, y.f3, y.f4, y.f5, y.f6]) (inner := [.int .i64 y.f0, .int .i64 y.f1, .int .i64 y.f2, .int .i64 y.f3, .int .i64 y.f4, .int .i64 y.f5, .int .i64 y.f6]) (ok := fun _ => True) (okp := fun _ => True) ?hr ?hp (fun _ hk => hk) trivial ?hB ?hS (by simp) ?_; (case hd => rfl); (case hg => rfl); (case hr => first | (go_simp; done) | (go_simp; rfl)); (case hp => exact Reps.one rfl (Reps.one rfl (Reps.one rfl (Reps.one rfl (Reps.one rfl (Reps.one rfl (Reps.one rfl (Reps.none _ _)))))))); (case hB => obtain ⟨_, _, _, _, _, h_⟩ := HB6.out; exact pw_below_drewN h_ _); (case hS => obtain ⟨_, _, _, _, _, h_⟩ := HB6.out; exact h_.size); intro v14 w8 ho hb hg_ hnew_; obtain ⟨g14, p14, e14, -, -, -⟩ := Kd.R_form ho (by simp); subst e14; have O14 := Aside0.mk ho; have HB8 := Aside0.mk (BrI.below (BrI.below HB6.out (pw_below_drewN (Below.refl _ _) _)) (Below.grown (Below.refl _ _) hg_ (Nat.le_refl _) (fun k e => by cases e))); have X8 := Aside0.mk (blk_grown (blk_drewN X6.out _) hg_ (by simp)); clear ho hb hg_ hnew_))
                                go_loopw [13, 15] (fun v13 v15 wp => ∃ k : Nat, k ≤ 7 ∧ v15 = .int .i64 (k : Int) ∧ v13 = .int .i64 (keyL ([y.f0, y.f1, y.f2, y.f3, y.f4, y.f5, y.f6].take k)) ∧ wp = w8) (fun v13 v15 _ => 7 - (intOf v15).toNat)
                                case atStart => exact ⟨0, by omega, rfl, rfl, rfl⟩
                                case round =>
                                  obtain ⟨kp, hkp, rfl, rfl, rfl⟩ := hrel
                                  by_cases hk7 : kp < 7
                                  · have hk7b : decide ((kp : Int) < 7) = true := decide_eq_true (by omega)
                                    obtain ⟨y14, -⟩ := Kd.R_celln 0 O14.out (kp : Int) (by omega) (by simp; omega)
                                    rw [Int.toNat_natCast] at y14
                                    change wr.cell? _ = some (.int .i64 (rd _ (kp : Int))) at y14
                                    obtain ⟨pz, hpz⟩ : ∃ pz, rd [y.f0, y.f1, y.f2, y.f3, y.f4, y.f5, y.f6] (kp : Int) = pz := ⟨_, rfl⟩
                                    have HNXT := Aside0.mk (keyL_next [y.f0, y.f1, y.f2, y.f3, y.f4, y.f5, y.f6] kp (by simp; omega))
                                    obtain ⟨ky, hky⟩ : ∃ ky, keyL ([y.f0, y.f1, y.f2, y.f3, y.f4, y.f5, y.f6].take kp) = ky := ⟨_, rfl⟩
                                    rw [hpz] at y14
                                    rw [hky]
                                    have HN2 := Aside0.mk (show keyL ([y.f0, y.f1, y.f2, y.f3, y.f4, y.f5, y.f6].take (kp + 1)) = wrap64 (wrap64 (8 * ky) + pz) by rw [HNXT.out, hky, hpz])
                                    have hkp0 : (0 : Int) ≤ (kp : Int) := by omega
                                    have hkp7 : (kp : Int) < 7 := by omega
                                    clear hpz hky
                                    go_wp2
                                    exact ⟨⟨kp + 1, by omega, by go_num, by first | trivial | rw [HN2.out], by first | trivial | rfl⟩, by simp [intOf]; omega⟩
                                  · obtain rfl : kp = 7 := by omega
                                    have hkey : keyL ([y.f0, y.f1, y.f2, y.f3, y.f4, y.f5, y.f6].take 7) = keyOf y := rfl
                                    rw [hkey]
                                    clear hkey
                                    obtain ⟨vs8, h48, h58, hbx8, htb8, hbel8⟩ := HB8.out
                                    have H48 := Aside0.mk h48
                                    have H58 := Aside0.mk h58
                                    have HBX8 := Aside0.mk hbx8
                                    have HTB8 := Aside0.mk htb8
                                    have HBEL8 := Aside0.mk hbel8
                                    clear h48 h58 hbx8 htb8 hbel8
                                    cases pr with
                                    | false =>
                                      go_wp2_with (first
                                        | (go_at_call 38; (with_reducible refine (putF.calls K gs s.tb s.c (keyOf y) false tb2 c2' _ w.heap.size vs8 ?hB ?hb ?hR HP.out).mono ?_); (case hB => exact HBEL8.out.size); (case hb => exact HBX8.out); (case hR => exact HTB8.out); rintro e w9 ⟨rfl, vs9, hb9, hR9, hK9⟩; have HB9 := Aside0.mk (BrI.put H48.out H58.out HBX8.out HTB8.out HBEL8.out GS.out hb9 hR9 hK9); clear hb9 hR9 hK9))
                                      go_roundg k3
                                      case measure => omega
                                      case rel => exact ⟨_, _, rfl, HA, ⟨by have := HK3.out; omega⟩, HB9⟩
                                    | true =>
                                      go_wp2_with (first
                                        | (go_at_call 38; (with_reducible refine (putF.calls K gs s.tb s.c (keyOf y) true tb2 c2' _ w.heap.size vs8 ?hB ?hb ?hR HP.out).mono ?_); (case hB => exact HBEL8.out.size); (case hb => exact HBX8.out); (case hR => exact HTB8.out); rintro e w9 ⟨rfl, vs9, hb9, hR9, hK9⟩; have HB9 := Aside0.mk (BrI.put H48.out H58.out HBX8.out HTB8.out HBEL8.out GS.out hb9 hR9 hK9); have X9 := Aside0.mk (hK9.keep X8.out (fun z => z.elim (fun e => by have h_ := X8.out; rw [e, HBX8.out] at h_; simp [boxS, boxX] at h_) (fun e => by obtain ⟨_, h_⟩ := Kd.R_typed HTB8.out _ e; rw [X8.out] at h_; simp [boxX] at h_))); obtain ⟨x0, x1, x2, x3, x4, x5, x6⟩ := x_cells X9.out; clear hb9 hR9 hK9; obtain ⟨vs9, h49, h59, hbx9, htb9, hbel9⟩ := HB9.out; have H49 := Aside0.mk h49; have H59 := Aside0.mk h59; have HBX9 := Aside0.mk hbx9; have HTB9 := Aside0.mk htb9; have HBEL9 := Aside0.mk hbel9; clear h49 h59 hbx9 htb9 hbel9)
                                        | ((with_reducible refine gate_builtin (b := .append) (xs := #[.tmp 111, .tmp 113]) rfl ?_); at_builtin; refine Kd.R_append k73 (w0 := w) w.heap.size rfl (.tmp 111) (.tmp 113) 74 73 (.agg #[.int .i64 0, .int .i64 0, .int .i64 0, .int .i64 0, .int .i64 0, .int .i64 0, .int .i64 0]) 56 rfl Try.underlying74 info73 rfl (by decide) (by omega) (.slice (some ad) s.st.length p4) s.st y [.int .i64 y.f0, .int .i64 y.f1, .int .i64 y.f2, .int .i64 y.f3, .int .i64 y.f4, .int .i64 y.f5, .int .i64 y.f6] (fun _ => True) (fun _ => False) rfl rfl ?aP (fun _ hk => hk.elim) ?aF ?aO ?aB ?aS ?aL ?_; (case aP => exact k73_mkM _ _ _ y); (case aF => exact (fun _ _ => trivial)); (case aO => exact H49.out); (case aB => exact HBEL9.out); (case aS => exact HBEL9.out.size); (case aL => have := HD3.out; omega); intro v10 w10 ho hb hg hat; have O4 := Aside0.mk ho; have O5 := Aside0.mk (Kd.R_over H59.out H49.out (by decide) hg); have BX10 := Aside0.mk (blk_grown HBX9.out hg (Kd.R_ne H49.out HBX9.out (by decide))); have TB10 := Aside0.mk (show RI w10 w.heap.size vs9 tb2 from Kd.R_over HTB9.out H49.out (by decide) hg); have B10 := Aside0.mk hb; clear ho hb hg hat)
                                        | ((with_reducible refine gate_builtin (b := .append) (xs := #[.tmp 115, .tmp 117]) rfl ?_); at_builtin; refine Kd.R_append Kd.string (w0 := w) w.heap.size rfl (.tmp 115) (.tmp 117) 75 9 (.string ByteArray.empty) 16 rfl Try.underlying75 infoStr rfl (by decide) (by omega) (.slice (some ae) s.ord.length p5) s.ord (od ++ l) [.string (od ++ l)] (fun _ => True) (fun _ => False) rfl rfl ?aP (fun _ hk => hk.elim) ?aF ?aO ?aB ?aS ?aL ?_; (case aP => exact rfl); (case aF => exact (fun _ _ => trivial)); (case aO => exact O5.out); (case aB => exact B10.out); (case aS => exact B10.out.size); (case aL => have := HD3.out; omega); intro v11 w11 ho hb hg hat; have HB11 := Aside0.mk (show BrI w gs ⟨s.st ++ [y], s.ord ++ [od ++ l], tb2, c2'⟩ w11 v10 v11 from ⟨vs9, Kd.R_over O4.out O5.out (by decide) hg, ho, blk_grown BX10.out hg (Kd.R_ne O5.out BX10.out (by decide)), Kd.R_over TB10.out O5.out (by decide) hg, hb⟩); clear ho hb hg hat))
                                      go_roundg k3
                                      case measure => omega
                                      case rel => exact ⟨_, _, rfl, HA, ⟨by have := HK3.out; omega⟩, HB11⟩
                              · rw [if_neg d4] at hA
                                have HI := Aside0.mk (show spec_l00In.f y.f4 0 q0 = some false by unfold spec_l00In.f; split; (rw [decide_eq_false (fun z => d4 ⟨by assumption, z⟩)]); rfl)
                                have hr := Option.some.inj hA
                                injection hr with e1 e2
                                subst e1
                                subst e2
                                clear hA d4
                                go_wp2_with (first
                                  | (go_at_call 43; (with_reducible refine (spec_l05Write.calls K g wr.heap.size q0 q1 x old y _ ?hq ?hx HY.out).mono ?_); (case hq => exact blk_alloc HQr.out _); (case hx => exact blk_new wr _); rintro e w5 ⟨rfl, hb5, hk5⟩; have X5 := Aside0.mk hb5; have B5 := Aside0.mk (KB.new hk5); have HB5 := Aside0.mk (BrI.below HB.out B5.out); have hz5 := HOD.out w5 B5.out; have QQ5 := Aside0.mk (blk_below HQr.out B5.out); obtain ⟨q5a, q5b⟩ := q_cells QQ5.out; obtain ⟨x0, x1, x2, x3, x4, x5, x6⟩ := x_cells X5.out; clear hb5 hk5))
                                go_quiet (first
                                  | ((go_at_call 45; exact Calls.quiet_of ((spec_l05Letter.calls side l _ HL.out).mono fun e W hh => ⟨hh.1, drawn_quiet hh.2⟩))))
                                go_wp2
                                obtain ⟨w6, hw6⟩ : ∃ w6, w5.drewN nq = w6 := ⟨_, rfl⟩
                                rw [hw6]
                                have X6 := Aside0.mk (show w6.heap[wr.heap.size]? = some (boxX y) by rw [← hw6]; exact X5.out)
                                have QQ6 := Aside0.mk (show w6.heap[g]? = some (boxQ q0 q1) by rw [← hw6]; exact QQ5.out)
                                have HB6 := Aside0.mk (show BrI w gs s w6 _ _ by rw [← hw6]; exact BrI.below HB5.out (pw_below_drewN (Below.refl _ _) nq))
                                clear hz5 q5a q5b x0 x1 x2 x3 x4 x5 x6 hw6
                                obtain ⟨q5a, q5b⟩ := q_cells QQ6.out
                                obtain ⟨x0, x1, x2, x3, x4, x5, x6⟩ := x_cells X6.out
                                go_quiet (first
                                  | ((go_at_call 42; exact Calls.quiet_of ((spec_l00In.calls y.f4 0 q0 false _ HI.out).mono fun e W hh => ⟨hh.1, drawn_quiet hh.2⟩))))
                                go_wp2
                                go_ret2
                                obtain ⟨_, _, _, _, _, h_⟩ := HB6.out
                                exact ⟨rfl, pw_below_drewN h_ _⟩
                            · rw [if_neg d3] at hA; cases hA
                          · rw [if_neg d2] at hA; cases hA
                        · rw [if_neg d1] at hA
                          have d1b : (Go.bits .andNot .i64 old bits != 0) = true := bne_iff_ne.2 d1
                          have HA := Aside0.mk hA
                          clear hA h4 h5 hbx htb hbel hp4 hC4 hp5 hC5 d0 d1
                          go_wp2
                          go_roundg k3
                          case measure => omega
                          case rel => exact ⟨_, _, rfl, HA, ⟨by have := HK3.out; omega⟩, HB⟩
                      · rw [if_neg d0] at hA
                        have d0b := decide_eq_false d0
                        have HA := Aside0.mk hA
                        clear hA h4 h5 hbx htb hbel hp4 hC4 hp5 hC5 d0
                        go_wp2
                        go_roundg k2
                        case measure => omega
                        case rel => exact ⟨_, _, rfl, by rw [← HNX.out] at HA; exact HA, ⟨by have := HK2.out; omega⟩, HB⟩

                · rw [if_neg c3] at hA
                  have c3b : (side == 1) = false := beq_eq_false_iff_ne.2 c3
                  obtain ⟨bits, hbits⟩ : ∃ b, (rd_T73 s.st i).f5 = b := ⟨_, rfl⟩
                  rw [hbits] at hA hx5
                  obtain ⟨NX, hNX⟩ : ∃ NX, (fun t => brSide K q0 q1 i (fun t => brRow K q0 q1 k1 (wrap64 (i + 1)) t) k2 (wrap64 (side + 1)) t) = NX := ⟨_, rfl⟩
                  rw [hNX] at hA
                  have HNX := Aside0.mk hNX
                  have HC3 := Aside0.mk c3
                  have HA := Aside0.mk hA
                  clear hA h4 h5 hbx htb hbel hp4 hC4 c1 hbits hNX c3
                  go_wp2
                  go_loopg [4, 5, 10] K (fun kq v4 v5 v10 wr => ∃ (old : Int) (s : BrS), v10 = .int .i64 old ∧ Aside0 (brOld K q0 q1 i side bits NX kq old s = some (r1, r2)) ∧ Aside0 (kq ≤ K) ∧ Aside0 (BrI w gs s wr v4 v5))
                  case atStart => exact ⟨bits, s, rfl, HA, ⟨Nat.le_refl _⟩, HB⟩
                  case round =>
                    clear HA
                    obtain ⟨old, s, rfl, HA, HK3, HB⟩ := hrel
                    cases gk with
                    | zero => exact absurd HA.out (by simp [brOld])
                    | succ k3 =>
                      have hA := HA.out
                      clear HA
                      simp only [brOld] at hA
                      obtain ⟨vs, h4, h5, hbx, htb, hbel⟩ := HB.out
                      obtain ⟨A4, p4, rfl, hp4, hC4⟩ := Kd.R_reads h4
                      obtain ⟨A5, p5, rfl, hp5, hC5⟩ := Kd.R_reads h5
                      by_cases d0 : 0 ≤ old
                      · rw [if_pos d0] at hA
                        have d0b := decide_eq_true d0
                        by_cases d1 : Go.bits .andNot .i64 old bits = 0
                        · rw [if_pos d1] at hA
                          by_cases d2 : i < s.st.length ∧ i < s.ord.length
                          · rw [if_pos d2] at hA
                            obtain ⟨i1, i2⟩ := d2
                            replace hA := Option.bind_eq_some_iff.1 hA
                            obtain ⟨y, hy, hA⟩ := hA
                            replace hA := Option.bind_eq_some_iff.1 hA
                            obtain ⟨l, hl, hA⟩ := hA
                            obtain ⟨ad, rfl, hx0, hx1, hx2, hx3, hx4, hx5, hx6⟩ := at_T73 hC4 i i0 i1
                            obtain ⟨ae, rfl, hz0⟩ := Kd.at_string hC5 i i0 i2
                            obtain ⟨x, hx⟩ : ∃ x, rd_T73 s.st i = x := ⟨_, rfl⟩
                            obtain ⟨od, hod⟩ : ∃ od, rdOf ByteArray.empty s.ord i = od := ⟨_, rfl⟩
                            rw [hx] at hx0 hx1 hx2 hx3 hx4 hx5 hx6 hy
                            rw [hod] at hz0 hA
                            by_cases d3 : (od ++ l).size ≤ 9223372036854775807 ∧ s.st.length < 1099511627776 ∧ s.ord.length < 1099511627776
                            · rw [if_pos d3] at hA
                              have HD3 := Aside0.mk d3
                              have HY := Aside0.mk (show spec_l05Read.f K q0 q1 x old = some y by rw [← hy]; unfold stepQ; rw [if_neg HC3.out])
                              have HL := Aside0.mk hl
                              have HQr := Aside0.mk (blk_below HQ.out hbel)
                              have hs1 : decide ((od ++ l).size ≤ 9223372036854775807) = true := decide_eq_true d3.1
                              have hs2 := hs1; (try simp only [ByteArray.size_append] at hs2); have hs3 := of_decide_eq_true hs2; have hs4 := eq_true hs3; have hs5 := eq_false (Nat.not_lt.2 hs3)
                              have hOD : ∀ W, Below wr.heap.size wr W → W.cell? (ae.add i.toNat) = some (.string od) := fun W hW => (hW.cell (World.block_lt_of_cell? wr _ hz0)).trans hz0
                              have HOD := Aside0.mk hOD
                              clear h4 h5 hbx htb hbel hp4 hC4 hp5 hC5 d3 hy hl hx hod d0 hOD
                              by_cases d4 : 0 ≤ y.f4 ∧ y.f4 ≤ q0
                              · rw [if_pos d4] at hA
                                have HI := Aside0.mk (show spec_l00In.f y.f4 0 q0 = some true by unfold spec_l00In.f; rw [if_pos d4.1, decide_eq_true d4.2])
                                replace hA := Option.bind_eq_some_iff.1 hA
                                obtain ⟨⟨pr, tb2, c2'⟩, hp, hA⟩ := hA
                                dsimp only at hA
                                have HP := Aside0.mk hp
                                have HA := Aside0.mk hA
                                clear hA d4 hp
                                go_wp2_with (first
                                  | (go_at_call 44; (with_reducible refine (spec_l05Read.calls K g wr.heap.size q0 q1 x old y _ ?hq ?hx HY.out).mono ?_); (case hq => exact blk_alloc HQr.out _); (case hx => exact blk_new wr _); rintro e w5 ⟨rfl, hb5, hk5⟩; have X5 := Aside0.mk hb5; have B5 := Aside0.mk (KB.new hk5); have HB5 := Aside0.mk (BrI.below HB.out B5.out); have hz5 := HOD.out w5 B5.out; have QQ5 := Aside0.mk (blk_below HQr.out B5.out); obtain ⟨q5a, q5b⟩ := q_cells QQ5.out; obtain ⟨x0, x1, x2, x3, x4, x5, x6⟩ := x_cells X5.out; clear hb5 hk5))
                                go_quiet (first
                                  | ((go_at_call 45; exact Calls.quiet_of ((spec_l05Letter.calls side l _ HL.out).mono fun e W hh => ⟨hh.1, drawn_quiet hh.2⟩))))
                                go_wp2
                                obtain ⟨w6, hw6⟩ : ∃ w6, w5.drewN nq = w6 := ⟨_, rfl⟩
                                rw [hw6]
                                have X6 := Aside0.mk (show w6.heap[wr.heap.size]? = some (boxX y) by rw [← hw6]; exact X5.out)
                                have QQ6 := Aside0.mk (show w6.heap[g]? = some (boxQ q0 q1) by rw [← hw6]; exact QQ5.out)
                                have HB6 := Aside0.mk (show BrI w gs s w6 _ _ by rw [← hw6]; exact BrI.below HB5.out (pw_below_drewN (Below.refl _ _) nq))
                                clear hz5 q5a q5b x0 x1 x2 x3 x4 x5 x6 hw6
                                obtain ⟨q5a, q5b⟩ := q_cells QQ6.out
                                obtain ⟨x0, x1, x2, x3, x4, x5, x6⟩ := x_cells X6.out
                                go_quiet (first
                                  | ((go_at_call 42; exact Calls.quiet_of ((spec_l00In.calls y.f4 0 q0 true _ HI.out).mono fun e W hh => ⟨hh.1, drawn_quiet hh.2⟩))))
                                go_wp2_with (first
                                  | ((with_reducible refine gate_dst (N := 94) rfl ?_); refine Kd.R_lit (Kd.int .i64) w.heap.size 2 ?hg (N := 94) ?hd (w0 := w) (xs := [y.f0, y.f1, y.f2, y.f3, y.f4, y.f5, y.f6]) (inner := [.int .i64 y.f0, .int .i64 y.f1, .int .i64 y.f2, .int .i64 y.f3, .int .i64 y.f4, .int .i64 y.f5, .int .i64 y.f6]) (ok := fun _ => True) (okp := fun _ => True) ?hr ?hp (fun _ hk => hk) trivial ?hB ?hS (by simp) ?_; (case hd => rfl); (case hg => rfl); (case hr => first | (go_simp; done) | (go_simp; rfl)); (case hp => exact Reps.one rfl (Reps.one rfl (Reps.one rfl (Reps.one rfl (Reps.one rfl (Reps.one rfl (Reps.one rfl (Reps.none _ _)))))))); (case hB => obtain ⟨_, _, _, _, _, h_⟩ := HB6.out; exact pw_below_drewN h_ _); (case hS => obtain ⟨_, _, _, _, _, h_⟩ := HB6.out; exact h_.size); intro v14 w8 ho hb hg_ hnew_; obtain ⟨g14, p14, e14, -, -, -⟩ := Kd.R_form ho (by simp); subst e14; have O14 := Aside0.mk ho; have HB8 := Aside0.mk (BrI.below (BrI.below HB6.out (pw_below_drewN (Below.refl _ _) _)) (Below.grown (Below.refl _ _) hg_ (Nat.le_refl _) (fun k e => by cases e))); have X8 := Aside0.mk (blk_grown (blk_drewN X6.out _) hg_ (by simp)); clear ho hb hg_ hnew_))
                                go_loopw [13, 15] (fun v13 v15 wp => ∃ k : Nat, k ≤ 7 ∧ v15 = .int .i64 (k : Int) ∧ v13 = .int .i64 (keyL ([y.f0, y.f1, y.f2, y.f3, y.f4, y.f5, y.f6].take k)) ∧ wp = w8) (fun v13 v15 _ => 7 - (intOf v15).toNat)
                                case atStart => exact ⟨0, by omega, rfl, rfl, rfl⟩
                                case round =>
                                  obtain ⟨kp, hkp, rfl, rfl, rfl⟩ := hrel
                                  by_cases hk7 : kp < 7
                                  · have hk7b : decide ((kp : Int) < 7) = true := decide_eq_true (by omega)
                                    obtain ⟨y14, -⟩ := Kd.R_celln 0 O14.out (kp : Int) (by omega) (by simp; omega)
                                    rw [Int.toNat_natCast] at y14
                                    change wr.cell? _ = some (.int .i64 (rd _ (kp : Int))) at y14
                                    obtain ⟨pz, hpz⟩ : ∃ pz, rd [y.f0, y.f1, y.f2, y.f3, y.f4, y.f5, y.f6] (kp : Int) = pz := ⟨_, rfl⟩
                                    have HNXT := Aside0.mk (keyL_next [y.f0, y.f1, y.f2, y.f3, y.f4, y.f5, y.f6] kp (by simp; omega))
                                    obtain ⟨ky, hky⟩ : ∃ ky, keyL ([y.f0, y.f1, y.f2, y.f3, y.f4, y.f5, y.f6].take kp) = ky := ⟨_, rfl⟩
                                    rw [hpz] at y14
                                    rw [hky]
                                    have HN2 := Aside0.mk (show keyL ([y.f0, y.f1, y.f2, y.f3, y.f4, y.f5, y.f6].take (kp + 1)) = wrap64 (wrap64 (8 * ky) + pz) by rw [HNXT.out, hky, hpz])
                                    have hkp0 : (0 : Int) ≤ (kp : Int) := by omega
                                    have hkp7 : (kp : Int) < 7 := by omega
                                    clear hpz hky
                                    go_wp2
                                    exact ⟨⟨kp + 1, by omega, by go_num, by first | trivial | rw [HN2.out], by first | trivial | rfl⟩, by simp [intOf]; omega⟩
                                  · obtain rfl : kp = 7 := by omega
                                    have hkey : keyL ([y.f0, y.f1, y.f2, y.f3, y.f4, y.f5, y.f6].take 7) = keyOf y := rfl
                                    rw [hkey]
                                    clear hkey
                                    obtain ⟨vs8, h48, h58, hbx8, htb8, hbel8⟩ := HB8.out
                                    have H48 := Aside0.mk h48
                                    have H58 := Aside0.mk h58
                                    have HBX8 := Aside0.mk hbx8
                                    have HTB8 := Aside0.mk htb8
                                    have HBEL8 := Aside0.mk hbel8
                                    clear h48 h58 hbx8 htb8 hbel8
                                    cases pr with
                                    | false =>
                                      go_wp2_with (first
                                        | (go_at_call 38; (with_reducible refine (putF.calls K gs s.tb s.c (keyOf y) false tb2 c2' _ w.heap.size vs8 ?hB ?hb ?hR HP.out).mono ?_); (case hB => exact HBEL8.out.size); (case hb => exact HBX8.out); (case hR => exact HTB8.out); rintro e w9 ⟨rfl, vs9, hb9, hR9, hK9⟩; have HB9 := Aside0.mk (BrI.put H48.out H58.out HBX8.out HTB8.out HBEL8.out GS.out hb9 hR9 hK9); clear hb9 hR9 hK9))
                                      go_roundg k3
                                      case measure => omega
                                      case rel => exact ⟨_, _, rfl, HA, ⟨by have := HK3.out; omega⟩, HB9⟩
                                    | true =>
                                      go_wp2_with (first
                                        | (go_at_call 38; (with_reducible refine (putF.calls K gs s.tb s.c (keyOf y) true tb2 c2' _ w.heap.size vs8 ?hB ?hb ?hR HP.out).mono ?_); (case hB => exact HBEL8.out.size); (case hb => exact HBX8.out); (case hR => exact HTB8.out); rintro e w9 ⟨rfl, vs9, hb9, hR9, hK9⟩; have HB9 := Aside0.mk (BrI.put H48.out H58.out HBX8.out HTB8.out HBEL8.out GS.out hb9 hR9 hK9); have X9 := Aside0.mk (hK9.keep X8.out (fun z => z.elim (fun e => by have h_ := X8.out; rw [e, HBX8.out] at h_; simp [boxS, boxX] at h_) (fun e => by obtain ⟨_, h_⟩ := Kd.R_typed HTB8.out _ e; rw [X8.out] at h_; simp [boxX] at h_))); obtain ⟨x0, x1, x2, x3, x4, x5, x6⟩ := x_cells X9.out; clear hb9 hR9 hK9; obtain ⟨vs9, h49, h59, hbx9, htb9, hbel9⟩ := HB9.out; have H49 := Aside0.mk h49; have H59 := Aside0.mk h59; have HBX9 := Aside0.mk hbx9; have HTB9 := Aside0.mk htb9; have HBEL9 := Aside0.mk hbel9; clear h49 h59 hbx9 htb9 hbel9)
                                        | ((with_reducible refine gate_builtin (b := .append) (xs := #[.tmp 111, .tmp 113]) rfl ?_); at_builtin; refine Kd.R_append k73 (w0 := w) w.heap.size rfl (.tmp 111) (.tmp 113) 74 73 (.agg #[.int .i64 0, .int .i64 0, .int .i64 0, .int .i64 0, .int .i64 0, .int .i64 0, .int .i64 0]) 56 rfl Try.underlying74 info73 rfl (by decide) (by omega) (.slice (some ad) s.st.length p4) s.st y [.int .i64 y.f0, .int .i64 y.f1, .int .i64 y.f2, .int .i64 y.f3, .int .i64 y.f4, .int .i64 y.f5, .int .i64 y.f6] (fun _ => True) (fun _ => False) rfl rfl ?aP (fun _ hk => hk.elim) ?aF ?aO ?aB ?aS ?aL ?_; (case aP => exact k73_mkM _ _ _ y); (case aF => exact (fun _ _ => trivial)); (case aO => exact H49.out); (case aB => exact HBEL9.out); (case aS => exact HBEL9.out.size); (case aL => have := HD3.out; omega); intro v10 w10 ho hb hg hat; have O4 := Aside0.mk ho; have O5 := Aside0.mk (Kd.R_over H59.out H49.out (by decide) hg); have BX10 := Aside0.mk (blk_grown HBX9.out hg (Kd.R_ne H49.out HBX9.out (by decide))); have TB10 := Aside0.mk (show RI w10 w.heap.size vs9 tb2 from Kd.R_over HTB9.out H49.out (by decide) hg); have B10 := Aside0.mk hb; clear ho hb hg hat)
                                        | ((with_reducible refine gate_builtin (b := .append) (xs := #[.tmp 115, .tmp 117]) rfl ?_); at_builtin; refine Kd.R_append Kd.string (w0 := w) w.heap.size rfl (.tmp 115) (.tmp 117) 75 9 (.string ByteArray.empty) 16 rfl Try.underlying75 infoStr rfl (by decide) (by omega) (.slice (some ae) s.ord.length p5) s.ord (od ++ l) [.string (od ++ l)] (fun _ => True) (fun _ => False) rfl rfl ?aP (fun _ hk => hk.elim) ?aF ?aO ?aB ?aS ?aL ?_; (case aP => exact rfl); (case aF => exact (fun _ _ => trivial)); (case aO => exact O5.out); (case aB => exact B10.out); (case aS => exact B10.out.size); (case aL => have := HD3.out; omega); intro v11 w11 ho hb hg hat; have HB11 := Aside0.mk (show BrI w gs ⟨s.st ++ [y], s.ord ++ [od ++ l], tb2, c2'⟩ w11 v10 v11 from ⟨vs9, Kd.R_over O4.out O5.out (by decide) hg, ho, blk_grown BX10.out hg (Kd.R_ne O5.out BX10.out (by decide)), Kd.R_over TB10.out O5.out (by decide) hg, hb⟩); clear ho hb hg hat))
                                      go_roundg k3
                                      case measure => omega
                                      case rel => exact ⟨_, _, rfl, HA, ⟨by have := HK3.out; omega⟩, HB11⟩
                              · rw [if_neg d4] at hA
                                have HI := Aside0.mk (show spec_l00In.f y.f4 0 q0 = some false by unfold spec_l00In.f; split; (rw [decide_eq_false (fun z => d4 ⟨by assumption, z⟩)]); rfl)
                                have hr := Option.some.inj hA
                                injection hr with e1 e2
                                subst e1
                                subst e2
                                clear hA d4
                                go_wp2_with (first
                                  | (go_at_call 44; (with_reducible refine (spec_l05Read.calls K g wr.heap.size q0 q1 x old y _ ?hq ?hx HY.out).mono ?_); (case hq => exact blk_alloc HQr.out _); (case hx => exact blk_new wr _); rintro e w5 ⟨rfl, hb5, hk5⟩; have X5 := Aside0.mk hb5; have B5 := Aside0.mk (KB.new hk5); have HB5 := Aside0.mk (BrI.below HB.out B5.out); have hz5 := HOD.out w5 B5.out; have QQ5 := Aside0.mk (blk_below HQr.out B5.out); obtain ⟨q5a, q5b⟩ := q_cells QQ5.out; obtain ⟨x0, x1, x2, x3, x4, x5, x6⟩ := x_cells X5.out; clear hb5 hk5))
                                go_quiet (first
                                  | ((go_at_call 45; exact Calls.quiet_of ((spec_l05Letter.calls side l _ HL.out).mono fun e W hh => ⟨hh.1, drawn_quiet hh.2⟩))))
                                go_wp2
                                obtain ⟨w6, hw6⟩ : ∃ w6, w5.drewN nq = w6 := ⟨_, rfl⟩
                                rw [hw6]
                                have X6 := Aside0.mk (show w6.heap[wr.heap.size]? = some (boxX y) by rw [← hw6]; exact X5.out)
                                have QQ6 := Aside0.mk (show w6.heap[g]? = some (boxQ q0 q1) by rw [← hw6]; exact QQ5.out)
                                have HB6 := Aside0.mk (show BrI w gs s w6 _ _ by rw [← hw6]; exact BrI.below HB5.out (pw_below_drewN (Below.refl _ _) nq))
                                clear hz5 q5a q5b x0 x1 x2 x3 x4 x5 x6 hw6
                                obtain ⟨q5a, q5b⟩ := q_cells QQ6.out
                                obtain ⟨x0, x1, x2, x3, x4, x5, x6⟩ := x_cells X6.out
                                go_quiet (first
                                  | ((go_at_call 42; exact Calls.quiet_of ((spec_l00In.calls y.f4 0 q0 false _ HI.out).mono fun e W hh => ⟨hh.1, drawn_quiet hh.2⟩))))
                                go_wp2
                                go_ret2
                                obtain ⟨_, _, _, _, _, h_⟩ := HB6.out
                                exact ⟨rfl, pw_below_drewN h_ _⟩
                            · rw [if_neg d3] at hA; cases hA
                          · rw [if_neg d2] at hA; cases hA
                        · rw [if_neg d1] at hA
                          have d1b : (Go.bits .andNot .i64 old bits != 0) = true := bne_iff_ne.2 d1
                          have HA := Aside0.mk hA
                          clear hA h4 h5 hbx htb hbel hp4 hC4 hp5 hC5 d0 d1
                          go_wp2
                          go_roundg k3
                          case measure => omega
                          case rel => exact ⟨_, _, rfl, HA, ⟨by have := HK3.out; omega⟩, HB⟩
                      · rw [if_neg d0] at hA
                        have d0b := decide_eq_false d0
                        have HA := Aside0.mk hA
                        clear hA h4 h5 hbx htb hbel hp4 hC4 hp5 hC5 d0
                        go_wp2
                        go_roundg k2
                        case measure => omega
                        case rel => exact ⟨_, _, rfl, by rw [← HNX.out] at HA; exact HA, ⟨by have := HK2.out; omega⟩, HB⟩

              · rw [if_neg c1] at hA; cases hA
            · rw [if_neg c2] at hA
              have c2b : decide (side < 2) = false := decide_eq_false c2
              have HA := Aside0.mk hA
              clear hA h4 h5 hbx htb hbel hp4 hC4 c2
              go_wp2
              go_roundg k1
              case measure => omega
              case rel => exact ⟨_, _, rfl, HA, ⟨by have h1_ := HI0.out; have h2_ := HI1.out; unfold wrap64; omega⟩, ⟨by have := HK1.out; omega⟩, HB⟩
      · rw [if_neg c1] at hA
        have c1b : decide (i < (s.st.length : Int)) = false := decide_eq_false c1
        have hr := Option.some.inj hA
        injection hr with e1 e2
        subst e1
        subst e2
        clear hA h4 h5 hbx htb hp4 hC4 c1
        go_wp2
        go_ret2
        exact ⟨rfl, hbel⟩
end Go.Proofs.Ytgmnbpdfdagniaa.A
