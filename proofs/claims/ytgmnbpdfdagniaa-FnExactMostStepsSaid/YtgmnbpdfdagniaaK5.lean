/- The reference's search over a link's states. No conditions. -/
import Derived.Test.YtgmnbpdfdagniaaZ29
import Derived.Test.YtgmnbpdfdagniaaQ2
import Derived.Test.YtgmnbpdfdagniaaZ24
namespace Go.Proofs.Ytgmnbpdfdagniaa.A
open Go.RowKit Go.Proofs.YtgmnbpdfdagniaaW.PrintWords Go.Proofs.YtgmnbpdfdagniaaW.PrintLast Go.Proofs.YtgmnbpdfdagniaaW.PrintMore
set_option linter.unusedVariables false
set_option linter.unusedSimpArgs false
/-- How far the search has come: states, their orders, the table of states that were seen, its count. -/
structure LkS where
  st : List S57
  ord : List ByteArray
  tb : List Int
  c : Int
def x0K : S57 := ⟨0, 0, 0, -1, 0, 0, 0, 0, 0, 0, 2, 0⟩
def hitK (l : Lnk) (fault : Bool) (y : S57) : Bool := if fault then y.f9 == 1 else y.f8 == l.wd
def lkSide (K : Nat) (l : Lnk) (ratio : Int) (fault : Bool) (i : Int) (next : LkS → Option (ByteArray × Bool)) : Nat → Int → LkS → Option (ByteArray × Bool)
  | 0, _, _ => none
  | n + 1, side, s =>
    if side < 2 then
      if i < s.st.length ∧ i < s.ord.length then
        (nextF l ratio side (rd_T57 s.st i)).bind fun y =>
        if y.2 = true then
          (putF K s.tb s.c (keyK y.1)).bind fun p =>
          if p.1 = true then
            (spec_l05Letter.f side).bind fun a =>
            if (rdOf ByteArray.empty s.ord i ++ a).size ≤ 9223372036854775807 ∧ s.st.length < 1099511627776 ∧ s.ord.length < 1099511627776 then
              if hitK l fault y.1 = true then some (rdOf ByteArray.empty s.ord i ++ a, true)
              else lkSide K l ratio fault i next n (wrap64 (side + 1)) ⟨s.st ++ [y.1], s.ord ++ [rdOf ByteArray.empty s.ord i ++ a], p.2.1, p.2.2⟩
            else none
          else lkSide K l ratio fault i next n (wrap64 (side + 1)) ⟨s.st, s.ord, p.2.1, p.2.2⟩
        else lkSide K l ratio fault i next n (wrap64 (side + 1)) s
      else none
    else next s
def lkRow (K : Nat) (l : Lnk) (ratio : Int) (fault : Bool) : Nat → Int → LkS → Option (ByteArray × Bool)
  | 0, _, _ => none
  | n + 1, i, s => if i < s.st.length then if 1099511627776 ≤ i then none else lkSide K l ratio fault i (fun t => lkRow K l ratio fault n (wrap64 (i + 1)) t) K 0 s else some (ByteArray.empty, false)
def lkF (K : Nat) (l : Lnk) (ratio : Int) (fault : Bool) : Option (ByteArray × Bool) :=
  if fault = false ∧ l.wd = 0 then some (ByteArray.empty, true) else lkRow K l ratio fault K 0 ⟨[x0K], [ByteArray.empty], [], 0⟩
/-- What there is in memory while it searches. -/
def LkI (w : World) (gs : Nat) (s : LkS) (wr : World) (v4 v5 : Value) : Prop :=
  ∃ vs, k57.R 57 wr w.heap.size (fun _ => True) v4 s.st ∧ Kd.string.R 9 wr w.heap.size (fun _ => True) v5 s.ord ∧ wr.heap[gs]? = some (boxS vs s.c) ∧ RI wr w.heap.size vs s.tb ∧ Below w.heap.size w wr
theorem LkI.below {w : World} {gs : Nat} {s : LkS} {wr w' : World} {v4 v5 : Value} (h : LkI w gs s wr v4 v5) (hb : Below wr.heap.size wr w') : LkI w gs s w' v4 v5 := by
  obtain ⟨vs, h4, h5, hbx, htb, hbel⟩ := h
  exact ⟨vs, Kd.R_below h4 hb, Kd.R_below h5 hb, blk_below hbx hb, Kd.R_below htb hb, below_step hbel hb⟩
theorem lk_ne {α β : Type} {d : Kd α} {d' : Kd β} {e e' b b' : Nat} {ok ok' : Nat → Prop} {w : World} {v v' : Value} {xs : List α} {ys : List β} (h : d.R e w b ok v xs) (h' : d'.R e' w b' ok' v' ys) (ht : e ≠ e') : ∀ k, v.ownBlock = some k → v'.ownBlock ≠ some k := by
  intro k hk hk'
  obtain ⟨c1, h1⟩ := Kd.R_typed h k hk
  obtain ⟨c2, h2⟩ := Kd.R_typed h' k hk'
  rw [h1] at h2
  simp at h2
  exact ht h2.2
theorem LkI.put {w : World} {gs : Nat} {s : LkS} {wr w' : World} {v4 v5 vs vs' : Value} {tb : List Int} {c : Int} (h4 : k57.R 57 wr w.heap.size (fun _ => True) v4 s.st) (h5 : Kd.string.R 9 wr w.heap.size (fun _ => True) v5 s.ord) (hbx : wr.heap[gs]? = some (boxS vs s.c)) (htb : RI wr w.heap.size vs s.tb) (hbel : Below w.heap.size w wr) (hgs : w.heap.size ≤ gs)
    (hb' : w'.heap[gs]? = some (boxS vs' c)) (hr' : RI w' w.heap.size vs' tb) (hk : KS (fun i => i = gs ∨ vs.ownBlock = some i) wr w') : LkI w gs ⟨s.st, s.ord, tb, c⟩ w' v4 v5 :=
  ⟨vs', Kd.R_mono (Kd.R_step (Kd.R_tight rfl h4) (fun k hk1 hlt => hk.block k hlt (fun z => z.elim (fun e => Kd.R_ne h4 hbx (by decide) (by rw [← e]; exact hk1)) (lk_ne h4 htb (by decide) k hk1.symm)))) (fun _ _ => trivial),
   Kd.R_mono (Kd.R_step (Kd.R_tight rfl h5) (fun k hk1 hlt => hk.block k hlt (fun z => z.elim (fun e => Kd.R_ne h5 hbx (by decide) (by rw [← e]; exact hk1)) (lk_ne h5 htb (by decide) k hk1.symm)))) (fun _ _ => trivial),
   hb', hr', hk.low hbel (fun i z => z.elim (fun e => by rw [e]; exact hgs) (fun e => Kd.R_base htb i e))⟩
theorem nextF.calls2 (g : Nat) (l : Lnk) (ratio side : Int) (x r : S57) (b : Bool) (w : World) (hl : w.heap[g]? = some (boxL l)) (h : nextF l ratio side x = some (r, b)) :
    Calls Try.prog 37 #[.pointer (some ⟨g, 0, none⟩), .int .i64 ratio, .agg #[.int .i64 (x.f0), .int .i64 (x.f1), .int .i64 (x.f2), .int .i64 (x.f3), .int .i64 (x.f4), .int .i64 (x.f5), .int .i64 (x.f6), .int .i64 (x.f7), .int .i64 (x.f8), .int .i64 (x.f9), .int .i64 (x.f10), .int .i64 (x.f11)], .int .i64 side] w fun e w' => e = .returned (.tuple #[.agg #[.int .i64 (r.f0), .int .i64 (r.f1), .int .i64 (r.f2), .int .i64 (r.f3), .int .i64 (r.f4), .int .i64 (r.f5), .int .i64 (r.f6), .int .i64 (r.f7), .int .i64 (r.f8), .int .i64 (r.f9), .int .i64 (r.f10), .int .i64 (r.f11)], .bool b]) ∧ Below w.heap.size w w' := nextF.calls g l ratio side x r b w hl h
theorem infoStrK : (Try.prog.info? 9).map (fun i => (i.zero, i.size, i.bytes)) = some (some (.string ByteArray.empty), 1, 16) := by kernel_rfl
set_option maxHeartbeats 6400000 in
set_option maxRecDepth 100000 in
theorem lkF.calls_true (K g : Nat) (l : Lnk) (ratio : Int) (r1 : ByteArray) (r2 : Bool) (w : World) (hl : w.heap[g]? = some (boxL l)) (h : lkF K l ratio true = some (r1, r2)) :
    Calls Try.prog 29 #[.pointer (some ⟨g, 0, none⟩), .int .i64 ratio, .bool true] w fun e w' => e = .returned (.tuple #[.string r1, .bool r2]) ∧ Below w.heap.size w w' := by
  have HL := Aside0.mk hl
  have hu57 := Try.underlying57
  have HU := Aside0.mk hu57
  have hu63 := Try.underlying63
  obtain ⟨l0, l1, l2, l3⟩ := l_cells hl
  clear l0 l1 l2
  unfold lkF at h
  rw [if_neg (by simp)] at h
  clear l3
  have H := Aside0.mk h
  clear hl h
  go_enter Try.func29, Try.ntmps29
  go_wp2_with (first
    | (go_at_call 36; (with_reducible refine (spec_l05Begin.calls 0 0 0 (-1) 0 0 0 0 0 0 2 0 _ rfl).mono ?_); rintro e w0 ⟨rfl, hb0⟩; have B0 := Aside0.mk hb0; clear hb0)
    | ((with_reducible refine gate_dst (N := 26) rfl ?_); refine Kd.R_lit k57 w.heap.size 57 ?hg (N := 26) ?hd (xs := [x0K]) (inner := [.int .i64 0, .int .i64 0, .int .i64 0, .int .i64 (-1), .int .i64 0, .int .i64 0, .int .i64 0, .int .i64 0, .int .i64 0, .int .i64 0, .int .i64 2, .int .i64 0]) (ok := fun _ => True) (okp := fun _ => True) ?hr ?hp (fun _ hk => hk) trivial B0.out B0.out.size (by simp) ?_; (case hd => rfl); (case hg => rfl); (case hr => first | (go_simp; done) | (go_simp; rfl)); (case hp => exact Reps.front (k57_mkM _ _ _ x0K) rfl (Reps.none _ _) rfl); intro v1 w1 ho hb hg_ hnew_; have B1 := Aside0.mk hb; have O1 := Aside0.mk ho; clear ho hb hg_ hnew_)
    | ((with_reducible refine gate_dst (N := 27) rfl ?_); refine Kd.R_lit Kd.string w.heap.size 9 ?hg (N := 27) ?hd (w0 := w) (xs := [ByteArray.empty]) (inner := [.string ByteArray.empty]) (ok := fun _ => True) (okp := fun _ => True) ?hr ?hp (fun _ hk => hk) trivial B1.out B1.out.size (by simp) ?_; (case hd => rfl); (case hg => rfl); (case hr => first | (go_simp; done) | (go_simp; rfl)); (case hp => exact Reps.one rfl (Reps.none _ _)); intro v2 w2 ho hb hg_ hnew_; have B2 := Aside0.mk hb; have O2 := Aside0.mk ho; have O1b := Aside0.mk (Kd.R_grown O1.out hg_ (fun _ _ => by simp)); clear ho hb hg_ hnew_)
    | ((with_reducible refine gate_dst (N := 29) rfl ?_); refine box_event ?hg (N := 29) ?hd (cs := #[.slice none 0 0, .int .i64 0]) (t := 63) ?hr ?_; (case hd => rfl); (case hg => rfl); (case hr => first | (go_simp; done) | (go_simp; rfl)); intro gs hg w3 hbox hb; have B3 := Aside0.mk (below_step B2.out hb); have BX := Aside0.mk hbox; have O1c := Aside0.mk (Kd.R_below O1b.out hb); have O2c := Aside0.mk (Kd.R_below O2.out hb); have GS := Aside0.mk (show w.heap.size ≤ gs by rw [hg]; exact B2.out.size); clear hb hbox hg))
  go_loopg [8, 9, 11] K (fun kq v4 v5 v7 wr => ∃ (i : Int) (s : LkS), v7 = .int .i64 i ∧ Aside0 (lkRow K l ratio true kq i s = some (r1, r2)) ∧ Aside0 (0 ≤ i) ∧ Aside0 (kq ≤ K) ∧ Aside0 (LkI w gs s wr v4 v5))
  case atStart => exact ⟨0, ⟨[x0K], [ByteArray.empty], [], 0⟩, rfl, H, ⟨Int.le_refl _⟩, ⟨Nat.le_refl _⟩, ⟨_, O1c.out, O2c.out, BX.out, Kd.R_nil _ _ _ _ _, B3.out⟩⟩
  case round =>
    obtain ⟨i, s, rfl, HA, HI0, HK1, HB⟩ := hrel
    cases gk with
    | zero => exact absurd HA.out (by simp [lkRow])
    | succ k1 =>
      have hA := HA.out
      clear HA
      simp only [lkRow] at hA
      obtain ⟨vs, h4, h5, hbx, htb, hbel⟩ := HB.out
      obtain ⟨A4, p4, rfl, hp4, hC4⟩ := Kd.R_reads h4
      by_cases c1 : i < s.st.length
      · rw [if_pos c1] at hA
        have c1b : decide (i < (s.st.length : Int)) = true := decide_eq_true c1
        by_cases cl : 1099511627776 ≤ i
        · rw [if_pos cl] at hA; cases hA
        rw [if_neg cl] at hA
        have HI1 := Aside0.mk (show i < 1099511627776 by omega)
        clear cl
        have HA := Aside0.mk hA
        clear hA h4 h5 hbx htb hbel hp4 hC4 c1
        go_wp2
        go_loopg [8, 9, 12] K (fun kq v4 v5 v8 wr => ∃ (side : Int) (s : LkS), v8 = .int .i64 side ∧ Aside0 (lkSide K l ratio true i (fun t => lkRow K l ratio true k1 (wrap64 (i + 1)) t) kq side s = some (r1, r2)) ∧ Aside0 (kq ≤ K) ∧ Aside0 (LkI w gs s wr v4 v5))
        case atStart => exact ⟨0, s, rfl, HA, ⟨Nat.le_refl _⟩, HB⟩
        case round =>
          clear HA
          obtain ⟨side, s, rfl, HA, HK2, HB⟩ := hrel
          cases gk with
          | zero => exact absurd HA.out (by simp [lkSide])
          | succ k2 =>
            have hA := HA.out
            clear HA
            simp only [lkSide] at hA
            obtain ⟨vs, h4, h5, hbx, htb, hbel⟩ := HB.out
            obtain ⟨A4, p4, rfl, hp4, hC4⟩ := Kd.R_reads h4
            obtain ⟨A5, p5, rfl, hp5, hC5⟩ := Kd.R_reads h5
            by_cases c2 : side < 2
            · rw [if_pos c2] at hA
              have c2b : decide (side < 2) = true := decide_eq_true c2
              by_cases c1 : i < s.st.length ∧ i < s.ord.length
              · rw [if_pos c1] at hA
                have i0 : 0 ≤ i := HI0.out
                obtain ⟨i1, i2⟩ := c1
                obtain ⟨⟨y, ok⟩, hn, hA⟩ := Option.bind_eq_some_iff.1 hA
                dsimp only at hA
                obtain ⟨ad, rfl, hx0, hx1, hx2, hx3, hx4, hx5, hx6, hx7, hx8, hx9, hx10, hx11⟩ := at_T57 hC4 i i0 i1
                obtain ⟨x, hx⟩ : ∃ x, rd_T57 s.st i = x := ⟨_, rfl⟩
                rw [hx] at hx0 hx1 hx2 hx3 hx4 hx5 hx6 hx7 hx8 hx9 hx10 hx11 hn
                obtain ⟨NX, hNX⟩ : ∃ NX, (fun t => lkRow K l ratio true k1 (wrap64 (i + 1)) t) = NX := ⟨_, rfl⟩
                rw [hNX] at hA
                have HNX := Aside0.mk hNX
                have HN := Aside0.mk hn
                have HLR := Aside0.mk (blk_below HL.out hbel)
                obtain ⟨ae, rfl, hz0⟩ := Kd.at_string hC5 i i0 i2
                have I2 := Aside0.mk i2
                clear hz0
                clear h4 h5 hbx htb hbel hp4 hC4 hp5 hC5 hn hx hNX
                cases ok with
                | false =>
                  rw [if_neg (by decide)] at hA
                  have HA := Aside0.mk hA
                  clear hA
                  go_wp2_with (first
                    | (go_at_call 37; (with_reducible refine (nextF.calls2 g l ratio side x y _ _ ?hl HN.out).mono ?_); (case hl => exact HLR.out); rintro e w5 ⟨rfl, hb5⟩; have B5 := Aside0.mk hb5; clear hb5)
                    | ((with_reducible refine gate_dst (N := 13) rfl ?_); refine box_event ?hg (N := 13) ?hd (cs := #[.int .i64 0, .int .i64 0, .int .i64 0, .int .i64 0, .int .i64 0, .int .i64 0, .int .i64 0, .int .i64 0, .int .i64 0, .int .i64 0, .int .i64 0, .int .i64 0]) (t := 57) ?hr ?_; (case hd => rfl); (case hg => rfl); (case hr => first | (go_simp; done) | (go_simp; rfl)); intro gx hgx w6 hbox hb; have X6 := Aside0.mk hbox; have B6 := Aside0.mk (below_step B5.out hb); have GX := Aside0.mk (show wr.heap.size ≤ gx by rw [hgx]; exact B5.out.size); clear hbox hb hgx)
                    | ((with_reducible refine gate_store (t := 57) (p := 13) rfl ?_); refine store_row_event rfl rfl 57 (.tmp 13) (.tmp 49) rfl gx #[.int .i64 (y.f0), .int .i64 (y.f1), .int .i64 (y.f2), .int .i64 (y.f3), .int .i64 (y.f4), .int .i64 (y.f5), .int .i64 (y.f6), .int .i64 (y.f7), .int .i64 (y.f8), .int .i64 (y.f9), .int .i64 (y.f10), .int .i64 (y.f11)] rfl rfl 57 _ X6.out (by kernel_rfl) (by first | rfl | kernel_rfl) (by first | rfl | kernel_rfl | simp [Value.oneCell']) ?_; intro w7 hr7 hk7; have X7 := Aside0.mk (show w7.heap[gx]? = some (boxK y) from hr7); have B7 := Aside0.mk (hk7.low B6.out GX.out); have HB7 := Aside0.mk (LkI.below HB.out B7.out); have HL7 := Aside0.mk (blk_below HLR.out B7.out); clear hr7 hk7))
                  go_roundg k2
                  case measure => omega
                  case rel => exact ⟨_, _, rfl, by rw [← HNX.out] at HA; exact HA, ⟨by have := HK2.out; omega⟩, HB7⟩

                | true =>
                  rw [if_pos rfl] at hA
                  obtain ⟨⟨pr, tb2, c2'⟩, hp, hA⟩ := Option.bind_eq_some_iff.1 hA
                  dsimp only at hA
                  have HP := Aside0.mk hp
                  clear hp
                  cases pr with
                  | false =>
                    rw [if_neg (by decide)] at hA
                    have HA := Aside0.mk hA
                    clear hA
                    go_wp2_with (first
                      | (go_at_call 37; (with_reducible refine (nextF.calls2 g l ratio side x y _ _ ?hl HN.out).mono ?_); (case hl => exact HLR.out); rintro e w5 ⟨rfl, hb5⟩; have B5 := Aside0.mk hb5; clear hb5)
                      | ((with_reducible refine gate_dst (N := 13) rfl ?_); refine box_event ?hg (N := 13) ?hd (cs := #[.int .i64 0, .int .i64 0, .int .i64 0, .int .i64 0, .int .i64 0, .int .i64 0, .int .i64 0, .int .i64 0, .int .i64 0, .int .i64 0, .int .i64 0, .int .i64 0]) (t := 57) ?hr ?_; (case hd => rfl); (case hg => rfl); (case hr => first | (go_simp; done) | (go_simp; rfl)); intro gx hgx w6 hbox hb; have X6 := Aside0.mk hbox; have B6 := Aside0.mk (below_step B5.out hb); have GX := Aside0.mk (show wr.heap.size ≤ gx by rw [hgx]; exact B5.out.size); clear hbox hb hgx)
                      | ((with_reducible refine gate_store (t := 57) (p := 13) rfl ?_); refine store_row_event rfl rfl 57 (.tmp 13) (.tmp 49) rfl gx #[.int .i64 (y.f0), .int .i64 (y.f1), .int .i64 (y.f2), .int .i64 (y.f3), .int .i64 (y.f4), .int .i64 (y.f5), .int .i64 (y.f6), .int .i64 (y.f7), .int .i64 (y.f8), .int .i64 (y.f9), .int .i64 (y.f10), .int .i64 (y.f11)] rfl rfl 57 _ X6.out (by kernel_rfl) (by first | rfl | kernel_rfl) (by first | rfl | kernel_rfl | simp [Value.oneCell']) ?_; intro w7 hr7 hk7; have X7 := Aside0.mk (show w7.heap[gx]? = some (boxK y) from hr7); have B7 := Aside0.mk (hk7.low B6.out GX.out); have HB7 := Aside0.mk (LkI.below HB.out B7.out); have HL7 := Aside0.mk (blk_below HLR.out B7.out); clear hr7 hk7)
                      | (go_at_call 39; (with_reducible refine (keyK.calls gx y _ ?hx).mono ?_); (case hx => exact X7.out); rintro e w8 ⟨rfl, hb8⟩; have X8 := Aside0.mk (blk_below X7.out hb8); have HL8 := Aside0.mk (blk_below HL7.out hb8); have B8 := Aside0.mk (below_step B7.out hb8); have HB8 := Aside0.mk (LkI.below HB7.out hb8); clear hb8; obtain ⟨vs8, h48, h58, hbx8, htb8, hbel8⟩ := HB8.out; have H48 := Aside0.mk h48; have H58 := Aside0.mk h58; have HBX8 := Aside0.mk hbx8; have HTB8 := Aside0.mk htb8; have HBEL8 := Aside0.mk hbel8; clear h48 h58 hbx8 htb8 hbel8)
                      | (go_at_call 38; (with_reducible refine (putF.calls K gs s.tb s.c (keyK y) false tb2 c2' _ w.heap.size vs8 ?hB ?hb ?hR HP.out).mono ?_); (case hB => exact HBEL8.out.size); (case hb => exact HBX8.out); (case hR => exact HTB8.out); rintro e w9 ⟨rfl, vs9, hb9, hR9, hK9⟩; have HB9 := Aside0.mk (LkI.put H48.out H58.out HBX8.out HTB8.out HBEL8.out GS.out hb9 hR9 hK9); have X9 := Aside0.mk (hK9.keep X8.out (fun z => z.elim (fun e => by have h_ := X8.out; rw [e, HBX8.out] at h_; simp [boxS, boxK] at h_) (fun e => by obtain ⟨_, h_⟩ := Kd.R_typed HTB8.out _ e; rw [X8.out] at h_; simp [boxK] at h_))); have HL9 := Aside0.mk (hK9.keep HL8.out (fun z => z.elim (fun e => by have h_ := blk_lt HL.out; have h2_ := GS.out; omega) (fun e => by have h_ := blk_lt HL.out; have h2_ := Kd.R_base HTB8.out _ e; omega))); clear hb9 hR9 hK9))
                    go_roundg k2
                    case measure => omega
                    case rel => exact ⟨_, _, rfl, by rw [← HNX.out] at HA; exact HA, ⟨by have := HK2.out; omega⟩, HB9⟩

                  | true =>
                    rw [if_pos rfl] at hA
                    obtain ⟨lt, hlt, hA⟩ := Option.bind_eq_some_iff.1 hA
                    obtain ⟨od, hod⟩ : ∃ od, rdOf ByteArray.empty s.ord i = od := ⟨_, rfl⟩
                    rw [hod] at hA
                    by_cases d3 : (od ++ lt).size ≤ 9223372036854775807 ∧ s.st.length < 1099511627776 ∧ s.ord.length < 1099511627776
                    · rw [if_pos d3] at hA
                      have HD3 := Aside0.mk d3
                      have HLT := Aside0.mk hlt
                      have HOD := Aside0.mk hod
                      have hs1 : decide ((od ++ lt).size ≤ 9223372036854775807) = true := decide_eq_true d3.1
                      have hs2 := hs1; (try simp only [ByteArray.size_append] at hs2); have hs3 := of_decide_eq_true hs2; have hs4 := eq_true hs3; have hs5 := eq_false (Nat.not_lt.2 hs3)
                      clear hlt hod d3
                      by_cases d4 : hitK l true y = true
                      · rw [if_pos d4] at hA
                        have d4b : (y.f9 == 1) = true := d4
                        have hr := Option.some.inj hA
                        injection hr with e1 e2
                        subst e1
                        subst e2
                        clear hA d4
                        go_wp2_with (first
                          | (go_at_call 37; (with_reducible refine (nextF.calls2 g l ratio side x y _ _ ?hl HN.out).mono ?_); (case hl => exact HLR.out); rintro e w5 ⟨rfl, hb5⟩; have B5 := Aside0.mk hb5; clear hb5)
                          | ((with_reducible refine gate_dst (N := 13) rfl ?_); refine box_event ?hg (N := 13) ?hd (cs := #[.int .i64 0, .int .i64 0, .int .i64 0, .int .i64 0, .int .i64 0, .int .i64 0, .int .i64 0, .int .i64 0, .int .i64 0, .int .i64 0, .int .i64 0, .int .i64 0]) (t := 57) ?hr ?_; (case hd => rfl); (case hg => rfl); (case hr => first | (go_simp; done) | (go_simp; rfl)); intro gx hgx w6 hbox hb; have X6 := Aside0.mk hbox; have B6 := Aside0.mk (below_step B5.out hb); have GX := Aside0.mk (show wr.heap.size ≤ gx by rw [hgx]; exact B5.out.size); clear hbox hb hgx)
                          | ((with_reducible refine gate_store (t := 57) (p := 13) rfl ?_); refine store_row_event rfl rfl 57 (.tmp 13) (.tmp 49) rfl gx #[.int .i64 (y.f0), .int .i64 (y.f1), .int .i64 (y.f2), .int .i64 (y.f3), .int .i64 (y.f4), .int .i64 (y.f5), .int .i64 (y.f6), .int .i64 (y.f7), .int .i64 (y.f8), .int .i64 (y.f9), .int .i64 (y.f10), .int .i64 (y.f11)] rfl rfl 57 _ X6.out (by kernel_rfl) (by first | rfl | kernel_rfl) (by first | rfl | kernel_rfl | simp [Value.oneCell']) ?_; intro w7 hr7 hk7; have X7 := Aside0.mk (show w7.heap[gx]? = some (boxK y) from hr7); have B7 := Aside0.mk (hk7.low B6.out GX.out); have HB7 := Aside0.mk (LkI.below HB.out B7.out); have HL7 := Aside0.mk (blk_below HLR.out B7.out); clear hr7 hk7)
                          | (go_at_call 39; (with_reducible refine (keyK.calls gx y _ ?hx).mono ?_); (case hx => exact X7.out); rintro e w8 ⟨rfl, hb8⟩; have X8 := Aside0.mk (blk_below X7.out hb8); have HL8 := Aside0.mk (blk_below HL7.out hb8); have B8 := Aside0.mk (below_step B7.out hb8); have HB8 := Aside0.mk (LkI.below HB7.out hb8); clear hb8; obtain ⟨vs8, h48, h58, hbx8, htb8, hbel8⟩ := HB8.out; have H48 := Aside0.mk h48; have H58 := Aside0.mk h58; have HBX8 := Aside0.mk hbx8; have HTB8 := Aside0.mk htb8; have HBEL8 := Aside0.mk hbel8; clear h48 h58 hbx8 htb8 hbel8)
                          | (go_at_call 38; (with_reducible refine (putF.calls K gs s.tb s.c (keyK y) true tb2 c2' _ w.heap.size vs8 ?hB ?hb ?hR HP.out).mono ?_); (case hB => exact HBEL8.out.size); (case hb => exact HBX8.out); (case hR => exact HTB8.out); rintro e w9 ⟨rfl, vs9, hb9, hR9, hK9⟩; have HB9 := Aside0.mk (LkI.put H48.out H58.out HBX8.out HTB8.out HBEL8.out GS.out hb9 hR9 hK9); have X9 := Aside0.mk (hK9.keep X8.out (fun z => z.elim (fun e => by have h_ := X8.out; rw [e, HBX8.out] at h_; simp [boxS, boxK] at h_) (fun e => by obtain ⟨_, h_⟩ := Kd.R_typed HTB8.out _ e; rw [X8.out] at h_; simp [boxK] at h_))); have HL9 := Aside0.mk (hK9.keep HL8.out (fun z => z.elim (fun e => by have h_ := blk_lt HL.out; have h2_ := GS.out; omega) (fun e => by have h_ := blk_lt HL.out; have h2_ := Kd.R_base HTB8.out _ e; omega))); clear hb9 hR9 hK9; obtain ⟨vs9, h49, h59, hbx9, htb9, hbel9⟩ := HB9.out; obtain ⟨-, -, hC59⟩ := Kd.R_reads' h59; obtain ⟨ae9, e9, hz5⟩ := Kd.at_string hC59 i i0 I2.out; injection e9 with e9; subst e9; rw [HOD.out] at hz5; obtain ⟨x0, x1, x2, x3, x4, x5, x6, x7, x8, x9, x10, x11⟩ := k_cells X9.out; obtain ⟨l0, l1, l2, l3⟩ := l_cells HL9.out; clear hC59 h49 h59 hbx9 htb9 hbel9))
                        go_quiet (first
                          | ((go_at_call 45; exact Calls.quiet_of ((spec_l05Letter.calls side lt _ HLT.out).mono fun e W hh => ⟨hh.1, drawn_quiet' hh.2⟩))))
                        go_wp2
                        obtain ⟨w10, hw10⟩ : ∃ w10, w9.drewN nq = w10 := ⟨_, rfl⟩
                        rw [hw10]
                        have X10 := Aside0.mk (show w10.heap[gx]? = some (boxK y) by rw [← hw10]; exact X9.out)
                        have HL10 := Aside0.mk (show w10.heap[g]? = some (boxL l) by rw [← hw10]; exact HL9.out)
                        have HB10 := Aside0.mk (show LkI w gs ⟨s.st, s.ord, tb2, c2'⟩ w10 _ _ by rw [← hw10]; exact LkI.below HB9.out (pw_below_drewN (Below.refl _ _) nq))
                        clear hz5 x0 x1 x2 x3 x4 x5 x6 x7 x8 x9 x10 x11 l0 l1 l2 l3 hw10
                        have hz5 : True := trivial
                        obtain ⟨x0, x1, x2, x3, x4, x5, x6, x7, x8, x9, x10, x11⟩ := k_cells X10.out
                        obtain ⟨l0, l1, l2, l3⟩ := l_cells HL10.out
                        go_quiet (fail)

                        go_wp2
                        go_ret2
                        obtain ⟨_, _, _, _, _, h_⟩ := HB10.out
                        exact ⟨rfl, pw_below_drewN h_ _⟩
                      · rw [if_neg d4] at hA
                        have d4b : (y.f9 == 1) = false := Bool.eq_false_iff.2 d4
                        have HA := Aside0.mk hA
                        clear hA d4
                        go_wp2_with (first
                          | (go_at_call 37; (with_reducible refine (nextF.calls2 g l ratio side x y _ _ ?hl HN.out).mono ?_); (case hl => exact HLR.out); rintro e w5 ⟨rfl, hb5⟩; have B5 := Aside0.mk hb5; clear hb5)
                          | ((with_reducible refine gate_dst (N := 13) rfl ?_); refine box_event ?hg (N := 13) ?hd (cs := #[.int .i64 0, .int .i64 0, .int .i64 0, .int .i64 0, .int .i64 0, .int .i64 0, .int .i64 0, .int .i64 0, .int .i64 0, .int .i64 0, .int .i64 0, .int .i64 0]) (t := 57) ?hr ?_; (case hd => rfl); (case hg => rfl); (case hr => first | (go_simp; done) | (go_simp; rfl)); intro gx hgx w6 hbox hb; have X6 := Aside0.mk hbox; have B6 := Aside0.mk (below_step B5.out hb); have GX := Aside0.mk (show wr.heap.size ≤ gx by rw [hgx]; exact B5.out.size); clear hbox hb hgx)
                          | ((with_reducible refine gate_store (t := 57) (p := 13) rfl ?_); refine store_row_event rfl rfl 57 (.tmp 13) (.tmp 49) rfl gx #[.int .i64 (y.f0), .int .i64 (y.f1), .int .i64 (y.f2), .int .i64 (y.f3), .int .i64 (y.f4), .int .i64 (y.f5), .int .i64 (y.f6), .int .i64 (y.f7), .int .i64 (y.f8), .int .i64 (y.f9), .int .i64 (y.f10), .int .i64 (y.f11)] rfl rfl 57 _ X6.out (by kernel_rfl) (by first | rfl | kernel_rfl) (by first | rfl | kernel_rfl | simp [Value.oneCell']) ?_; intro w7 hr7 hk7; have X7 := Aside0.mk (show w7.heap[gx]? = some (boxK y) from hr7); have B7 := Aside0.mk (hk7.low B6.out GX.out); have HB7 := Aside0.mk (LkI.below HB.out B7.out); have HL7 := Aside0.mk (blk_below HLR.out B7.out); clear hr7 hk7)
                          | (go_at_call 39; (with_reducible refine (keyK.calls gx y _ ?hx).mono ?_); (case hx => exact X7.out); rintro e w8 ⟨rfl, hb8⟩; have X8 := Aside0.mk (blk_below X7.out hb8); have HL8 := Aside0.mk (blk_below HL7.out hb8); have B8 := Aside0.mk (below_step B7.out hb8); have HB8 := Aside0.mk (LkI.below HB7.out hb8); clear hb8; obtain ⟨vs8, h48, h58, hbx8, htb8, hbel8⟩ := HB8.out; have H48 := Aside0.mk h48; have H58 := Aside0.mk h58; have HBX8 := Aside0.mk hbx8; have HTB8 := Aside0.mk htb8; have HBEL8 := Aside0.mk hbel8; clear h48 h58 hbx8 htb8 hbel8)
                          | (go_at_call 38; (with_reducible refine (putF.calls K gs s.tb s.c (keyK y) true tb2 c2' _ w.heap.size vs8 ?hB ?hb ?hR HP.out).mono ?_); (case hB => exact HBEL8.out.size); (case hb => exact HBX8.out); (case hR => exact HTB8.out); rintro e w9 ⟨rfl, vs9, hb9, hR9, hK9⟩; have HB9 := Aside0.mk (LkI.put H48.out H58.out HBX8.out HTB8.out HBEL8.out GS.out hb9 hR9 hK9); have X9 := Aside0.mk (hK9.keep X8.out (fun z => z.elim (fun e => by have h_ := X8.out; rw [e, HBX8.out] at h_; simp [boxS, boxK] at h_) (fun e => by obtain ⟨_, h_⟩ := Kd.R_typed HTB8.out _ e; rw [X8.out] at h_; simp [boxK] at h_))); have HL9 := Aside0.mk (hK9.keep HL8.out (fun z => z.elim (fun e => by have h_ := blk_lt HL.out; have h2_ := GS.out; omega) (fun e => by have h_ := blk_lt HL.out; have h2_ := Kd.R_base HTB8.out _ e; omega))); clear hb9 hR9 hK9; obtain ⟨vs9, h49, h59, hbx9, htb9, hbel9⟩ := HB9.out; obtain ⟨-, -, hC59⟩ := Kd.R_reads' h59; obtain ⟨ae9, e9, hz5⟩ := Kd.at_string hC59 i i0 I2.out; injection e9 with e9; subst e9; rw [HOD.out] at hz5; obtain ⟨x0, x1, x2, x3, x4, x5, x6, x7, x8, x9, x10, x11⟩ := k_cells X9.out; obtain ⟨l0, l1, l2, l3⟩ := l_cells HL9.out; clear hC59 h49 h59 hbx9 htb9 hbel9))
                        go_quiet (first
                          | ((go_at_call 45; exact Calls.quiet_of ((spec_l05Letter.calls side lt _ HLT.out).mono fun e W hh => ⟨hh.1, drawn_quiet' hh.2⟩))))
                        go_wp2
                        obtain ⟨w10, hw10⟩ : ∃ w10, w9.drewN nq = w10 := ⟨_, rfl⟩
                        rw [hw10]
                        have X10 := Aside0.mk (show w10.heap[gx]? = some (boxK y) by rw [← hw10]; exact X9.out)
                        have HL10 := Aside0.mk (show w10.heap[g]? = some (boxL l) by rw [← hw10]; exact HL9.out)
                        have HB10 := Aside0.mk (show LkI w gs ⟨s.st, s.ord, tb2, c2'⟩ w10 _ _ by rw [← hw10]; exact LkI.below HB9.out (pw_below_drewN (Below.refl _ _) nq))
                        clear hz5 x0 x1 x2 x3 x4 x5 x6 x7 x8 x9 x10 x11 l0 l1 l2 l3 hw10
                        have hz5 : True := trivial
                        obtain ⟨x0, x1, x2, x3, x4, x5, x6, x7, x8, x9, x10, x11⟩ := k_cells X10.out
                        obtain ⟨l0, l1, l2, l3⟩ := l_cells HL10.out
                        go_quiet (fail)

                        obtain ⟨w11, hw11⟩ : ∃ w11, w10.drewN nq = w11 := ⟨_, rfl⟩
                        rw [hw11]
                        have X11 := Aside0.mk (show w11.heap[gx]? = some (boxK y) by rw [← hw11]; exact X10.out)
                        have HB11 := Aside0.mk (show LkI w gs ⟨s.st, s.ord, tb2, c2'⟩ w11 _ _ by rw [← hw11]; exact LkI.below HB10.out (pw_below_drewN (Below.refl _ _) nq))
                        clear hz5 x0 x1 x2 x3 x4 x5 x6 x7 x8 x9 x10 x11 l0 l1 l2 l3 hw11
                        obtain ⟨vs9, h49, h59, hbx9, htb9, hbel9⟩ := HB11.out
                        have H49 := Aside0.mk h49
                        have H59 := Aside0.mk h59
                        have HBX9 := Aside0.mk hbx9
                        have HTB9 := Aside0.mk htb9
                        have HBEL9 := Aside0.mk hbel9
                        clear h49 h59 hbx9 htb9 hbel9
                        go_wp2_with (first
                          | ((with_reducible refine gate_dst (N := 87) rfl ?_); refine load_row_event rfl 57 (.tmp 13) rfl gx rfl 57 #[.int .i64 (y.f0), .int .i64 (y.f1), .int .i64 (y.f2), .int .i64 (y.f3), .int .i64 (y.f4), .int .i64 (y.f5), .int .i64 (y.f6), .int .i64 (y.f7), .int .i64 (y.f8), .int .i64 (y.f9), .int .i64 (y.f10), .int .i64 (y.f11)] _ X11.out HU.out rfl (by kernel_rfl) ?_)
                          | ((with_reducible refine gate_builtin (b := .append) (xs := #[.tmp 86, .tmp 88]) rfl ?_); at_builtin; refine Kd.R_append k57 (w0 := w) w.heap.size rfl (.tmp 86) (.tmp 88) 59 57 (.agg #[.int .i64 0, .int .i64 0, .int .i64 0, .int .i64 0, .int .i64 0, .int .i64 0, .int .i64 0, .int .i64 0, .int .i64 0, .int .i64 0, .int .i64 0, .int .i64 0]) 96 rfl Try.underlying59 info57 rfl (by decide) (by omega) (.slice (some ad) s.st.length p4) s.st y [.int .i64 (y.f0), .int .i64 (y.f1), .int .i64 (y.f2), .int .i64 (y.f3), .int .i64 (y.f4), .int .i64 (y.f5), .int .i64 (y.f6), .int .i64 (y.f7), .int .i64 (y.f8), .int .i64 (y.f9), .int .i64 (y.f10), .int .i64 (y.f11)] (fun _ => True) (fun _ => False) rfl rfl ?aP (fun _ hk => hk.elim) ?aF ?aO ?aB ?aS ?aL ?_; (case aP => exact k57_mkM _ _ _ y); (case aF => exact (fun _ _ => trivial)); (case aO => exact H49.out); (case aB => exact HBEL9.out); (case aS => exact HBEL9.out.size); (case aL => have := HD3.out; omega); intro v10 w12 ho hb hg hat; have O4 := Aside0.mk ho; have O5 := Aside0.mk (Kd.R_over H59.out H49.out (by decide) hg); have BX10 := Aside0.mk (blk_grown HBX9.out hg (Kd.R_ne H49.out HBX9.out (by decide))); have TB10 := Aside0.mk (show RI w12 w.heap.size vs9 tb2 from Kd.R_over HTB9.out H49.out (by decide) hg); have B10 := Aside0.mk hb; clear ho hb hg hat)
                          | ((with_reducible refine gate_builtin (b := .append) (xs := #[.tmp 90, .tmp 92]) rfl ?_); at_builtin; refine Kd.R_append Kd.string (w0 := w) w.heap.size rfl (.tmp 90) (.tmp 92) 75 9 (.string ByteArray.empty) 16 rfl Try.underlying75 infoStrK rfl (by decide) (by omega) (.slice (some ae) s.ord.length p5) s.ord (od ++ lt) [.string (od ++ lt)] (fun _ => True) (fun _ => False) rfl rfl ?aP (fun _ hk => hk.elim) ?aF ?aO ?aB ?aS ?aL ?_; (case aP => exact rfl); (case aF => exact (fun _ _ => trivial)); (case aO => exact O5.out); (case aB => exact B10.out); (case aS => exact B10.out.size); (case aL => have := HD3.out; omega); intro v11 w13 ho hb hg hat; have HB13 := Aside0.mk (show LkI w gs ⟨s.st ++ [y], s.ord ++ [od ++ lt], tb2, c2'⟩ w13 v10 v11 from ⟨vs9, Kd.R_over O4.out O5.out (by decide) hg, ho, blk_grown BX10.out hg (Kd.R_ne O5.out BX10.out (by decide)), Kd.R_over TB10.out O5.out (by decide) hg, hb⟩); clear ho hb hg hat))
                        go_roundg k2
                        case measure => omega
                        case rel => exact ⟨_, _, rfl, by rw [← HNX.out] at HA; exact HA, ⟨by have := HK2.out; omega⟩, HB13⟩

                    · rw [if_neg d3] at hA; cases hA

              · rw [if_neg c1] at hA; cases hA
            · rw [if_neg c2] at hA
              have c2b : decide (side < 2) = false := decide_eq_false c2
              have HA := Aside0.mk hA
              clear hA h4 h5 hbx htb hbel hp4 hC4 hp5 hC5 c2
              go_wp2
              go_roundg k1
              case measure => omega
              case rel => exact ⟨_, _, rfl, HA, ⟨by have h1_ := HI0.out; have h2_ := HI1.out; unfold wrap64; omega⟩, ⟨by have := HK1.out; omega⟩, HB⟩
      · rw [if_neg c1] at hA
        have c1b : decide (i < (s.st.length : Int)) = false := decide_eq_false c1
        have hr := Option.some.inj hA
        injection hr with e1 e2
        subst e1
        subst e2
        clear hA h4 h5 hbx htb hp4 hC4 c1
        go_wp2
        go_ret2
        exact ⟨rfl, hbel⟩
set_option maxHeartbeats 6400000 in
set_option maxRecDepth 100000 in
theorem lkF.calls_false (K g : Nat) (l : Lnk) (ratio : Int) (r1 : ByteArray) (r2 : Bool) (w : World) (hl : w.heap[g]? = some (boxL l)) (h : lkF K l ratio false = some (r1, r2)) :
    Calls Try.prog 29 #[.pointer (some ⟨g, 0, none⟩), .int .i64 ratio, .bool false] w fun e w' => e = .returned (.tuple #[.string r1, .bool r2]) ∧ Below w.heap.size w w' := by
  have HL := Aside0.mk hl
  have hu57 := Try.underlying57
  have HU := Aside0.mk hu57
  have hu63 := Try.underlying63
  obtain ⟨l0, l1, l2, l3⟩ := l_cells hl
  clear l0 l1 l2
  unfold lkF at h
  by_cases z0 : l.wd = 0
  · rw [if_pos ⟨rfl, z0⟩] at h
    have hr := Option.some.inj h
    injection hr with e1 e2
    subst e1
    subst e2
    rw [z0] at l3
    clear h z0 hl
    go_enter Try.func29, Try.ntmps29
    go_wp2
    go_ret2
    exact ⟨rfl, Below.refl _ _⟩
  rw [if_neg (fun z => z0 z.2)] at h
  have z0b : (l.wd == 0) = false := beq_eq_false_iff_ne.2 z0
  have H := Aside0.mk h
  clear hl h
  go_enter Try.func29, Try.ntmps29
  go_wp2_with (first
    | (go_at_call 36; (with_reducible refine (spec_l05Begin.calls 0 0 0 (-1) 0 0 0 0 0 0 2 0 _ rfl).mono ?_); rintro e w0 ⟨rfl, hb0⟩; have B0 := Aside0.mk hb0; clear hb0)
    | ((with_reducible refine gate_dst (N := 26) rfl ?_); refine Kd.R_lit k57 w.heap.size 57 ?hg (N := 26) ?hd (xs := [x0K]) (inner := [.int .i64 0, .int .i64 0, .int .i64 0, .int .i64 (-1), .int .i64 0, .int .i64 0, .int .i64 0, .int .i64 0, .int .i64 0, .int .i64 0, .int .i64 2, .int .i64 0]) (ok := fun _ => True) (okp := fun _ => True) ?hr ?hp (fun _ hk => hk) trivial B0.out B0.out.size (by simp) ?_; (case hd => rfl); (case hg => rfl); (case hr => first | (go_simp; done) | (go_simp; rfl)); (case hp => exact Reps.front (k57_mkM _ _ _ x0K) rfl (Reps.none _ _) rfl); intro v1 w1 ho hb hg_ hnew_; have B1 := Aside0.mk hb; have O1 := Aside0.mk ho; clear ho hb hg_ hnew_)
    | ((with_reducible refine gate_dst (N := 27) rfl ?_); refine Kd.R_lit Kd.string w.heap.size 9 ?hg (N := 27) ?hd (w0 := w) (xs := [ByteArray.empty]) (inner := [.string ByteArray.empty]) (ok := fun _ => True) (okp := fun _ => True) ?hr ?hp (fun _ hk => hk) trivial B1.out B1.out.size (by simp) ?_; (case hd => rfl); (case hg => rfl); (case hr => first | (go_simp; done) | (go_simp; rfl)); (case hp => exact Reps.one rfl (Reps.none _ _)); intro v2 w2 ho hb hg_ hnew_; have B2 := Aside0.mk hb; have O2 := Aside0.mk ho; have O1b := Aside0.mk (Kd.R_grown O1.out hg_ (fun _ _ => by simp)); clear ho hb hg_ hnew_)
    | ((with_reducible refine gate_dst (N := 29) rfl ?_); refine box_event ?hg (N := 29) ?hd (cs := #[.slice none 0 0, .int .i64 0]) (t := 63) ?hr ?_; (case hd => rfl); (case hg => rfl); (case hr => first | (go_simp; done) | (go_simp; rfl)); intro gs hg w3 hbox hb; have B3 := Aside0.mk (below_step B2.out hb); have BX := Aside0.mk hbox; have O1c := Aside0.mk (Kd.R_below O1b.out hb); have O2c := Aside0.mk (Kd.R_below O2.out hb); have GS := Aside0.mk (show w.heap.size ≤ gs by rw [hg]; exact B2.out.size); clear hb hbox hg))
  go_loopg [8, 9, 11] K (fun kq v4 v5 v7 wr => ∃ (i : Int) (s : LkS), v7 = .int .i64 i ∧ Aside0 (lkRow K l ratio false kq i s = some (r1, r2)) ∧ Aside0 (0 ≤ i) ∧ Aside0 (kq ≤ K) ∧ Aside0 (LkI w gs s wr v4 v5))
  case atStart => exact ⟨0, ⟨[x0K], [ByteArray.empty], [], 0⟩, rfl, H, ⟨Int.le_refl _⟩, ⟨Nat.le_refl _⟩, ⟨_, O1c.out, O2c.out, BX.out, Kd.R_nil _ _ _ _ _, B3.out⟩⟩
  case round =>
    obtain ⟨i, s, rfl, HA, HI0, HK1, HB⟩ := hrel
    cases gk with
    | zero => exact absurd HA.out (by simp [lkRow])
    | succ k1 =>
      have hA := HA.out
      clear HA
      simp only [lkRow] at hA
      obtain ⟨vs, h4, h5, hbx, htb, hbel⟩ := HB.out
      obtain ⟨A4, p4, rfl, hp4, hC4⟩ := Kd.R_reads h4
      by_cases c1 : i < s.st.length
      · rw [if_pos c1] at hA
        have c1b : decide (i < (s.st.length : Int)) = true := decide_eq_true c1
        by_cases cl : 1099511627776 ≤ i
        · rw [if_pos cl] at hA; cases hA
        rw [if_neg cl] at hA
        have HI1 := Aside0.mk (show i < 1099511627776 by omega)
        clear cl
        have HA := Aside0.mk hA
        clear hA h4 h5 hbx htb hbel hp4 hC4 c1
        go_wp2
        go_loopg [8, 9, 12] K (fun kq v4 v5 v8 wr => ∃ (side : Int) (s : LkS), v8 = .int .i64 side ∧ Aside0 (lkSide K l ratio false i (fun t => lkRow K l ratio false k1 (wrap64 (i + 1)) t) kq side s = some (r1, r2)) ∧ Aside0 (kq ≤ K) ∧ Aside0 (LkI w gs s wr v4 v5))
        case atStart => exact ⟨0, s, rfl, HA, ⟨Nat.le_refl _⟩, HB⟩
        case round =>
          clear HA
          obtain ⟨side, s, rfl, HA, HK2, HB⟩ := hrel
          cases gk with
          | zero => exact absurd HA.out (by simp [lkSide])
          | succ k2 =>
            have hA := HA.out
            clear HA
            simp only [lkSide] at hA
            obtain ⟨vs, h4, h5, hbx, htb, hbel⟩ := HB.out
            obtain ⟨A4, p4, rfl, hp4, hC4⟩ := Kd.R_reads h4
            obtain ⟨A5, p5, rfl, hp5, hC5⟩ := Kd.R_reads h5
            by_cases c2 : side < 2
            · rw [if_pos c2] at hA
              have c2b : decide (side < 2) = true := decide_eq_true c2
              by_cases c1 : i < s.st.length ∧ i < s.ord.length
              · rw [if_pos c1] at hA
                have i0 : 0 ≤ i := HI0.out
                obtain ⟨i1, i2⟩ := c1
                obtain ⟨⟨y, ok⟩, hn, hA⟩ := Option.bind_eq_some_iff.1 hA
                dsimp only at hA
                obtain ⟨ad, rfl, hx0, hx1, hx2, hx3, hx4, hx5, hx6, hx7, hx8, hx9, hx10, hx11⟩ := at_T57 hC4 i i0 i1
                obtain ⟨x, hx⟩ : ∃ x, rd_T57 s.st i = x := ⟨_, rfl⟩
                rw [hx] at hx0 hx1 hx2 hx3 hx4 hx5 hx6 hx7 hx8 hx9 hx10 hx11 hn
                obtain ⟨NX, hNX⟩ : ∃ NX, (fun t => lkRow K l ratio false k1 (wrap64 (i + 1)) t) = NX := ⟨_, rfl⟩
                rw [hNX] at hA
                have HNX := Aside0.mk hNX
                have HN := Aside0.mk hn
                have HLR := Aside0.mk (blk_below HL.out hbel)
                obtain ⟨ae, rfl, hz0⟩ := Kd.at_string hC5 i i0 i2
                have I2 := Aside0.mk i2
                clear hz0
                clear h4 h5 hbx htb hbel hp4 hC4 hp5 hC5 hn hx hNX
                cases ok with
                | false =>
                  rw [if_neg (by decide)] at hA
                  have HA := Aside0.mk hA
                  clear hA
                  go_wp2_with (first
                    | (go_at_call 37; (with_reducible refine (nextF.calls2 g l ratio side x y _ _ ?hl HN.out).mono ?_); (case hl => exact HLR.out); rintro e w5 ⟨rfl, hb5⟩; have B5 := Aside0.mk hb5; clear hb5)
                    | ((with_reducible refine gate_dst (N := 13) rfl ?_); refine box_event ?hg (N := 13) ?hd (cs := #[.int .i64 0, .int .i64 0, .int .i64 0, .int .i64 0, .int .i64 0, .int .i64 0, .int .i64 0, .int .i64 0, .int .i64 0, .int .i64 0, .int .i64 0, .int .i64 0]) (t := 57) ?hr ?_; (case hd => rfl); (case hg => rfl); (case hr => first | (go_simp; done) | (go_simp; rfl)); intro gx hgx w6 hbox hb; have X6 := Aside0.mk hbox; have B6 := Aside0.mk (below_step B5.out hb); have GX := Aside0.mk (show wr.heap.size ≤ gx by rw [hgx]; exact B5.out.size); clear hbox hb hgx)
                    | ((with_reducible refine gate_store (t := 57) (p := 13) rfl ?_); refine store_row_event rfl rfl 57 (.tmp 13) (.tmp 49) rfl gx #[.int .i64 (y.f0), .int .i64 (y.f1), .int .i64 (y.f2), .int .i64 (y.f3), .int .i64 (y.f4), .int .i64 (y.f5), .int .i64 (y.f6), .int .i64 (y.f7), .int .i64 (y.f8), .int .i64 (y.f9), .int .i64 (y.f10), .int .i64 (y.f11)] rfl rfl 57 _ X6.out (by kernel_rfl) (by first | rfl | kernel_rfl) (by first | rfl | kernel_rfl | simp [Value.oneCell']) ?_; intro w7 hr7 hk7; have X7 := Aside0.mk (show w7.heap[gx]? = some (boxK y) from hr7); have B7 := Aside0.mk (hk7.low B6.out GX.out); have HB7 := Aside0.mk (LkI.below HB.out B7.out); have HL7 := Aside0.mk (blk_below HLR.out B7.out); clear hr7 hk7))
                  go_roundg k2
                  case measure => omega
                  case rel => exact ⟨_, _, rfl, by rw [← HNX.out] at HA; exact HA, ⟨by have := HK2.out; omega⟩, HB7⟩

                | true =>
                  rw [if_pos rfl] at hA
                  obtain ⟨⟨pr, tb2, c2'⟩, hp, hA⟩ := Option.bind_eq_some_iff.1 hA
                  dsimp only at hA
                  have HP := Aside0.mk hp
                  clear hp
                  cases pr with
                  | false =>
                    rw [if_neg (by decide)] at hA
                    have HA := Aside0.mk hA
                    clear hA
                    go_wp2_with (first
                      | (go_at_call 37; (with_reducible refine (nextF.calls2 g l ratio side x y _ _ ?hl HN.out).mono ?_); (case hl => exact HLR.out); rintro e w5 ⟨rfl, hb5⟩; have B5 := Aside0.mk hb5; clear hb5)
                      | ((with_reducible refine gate_dst (N := 13) rfl ?_); refine box_event ?hg (N := 13) ?hd (cs := #[.int .i64 0, .int .i64 0, .int .i64 0, .int .i64 0, .int .i64 0, .int .i64 0, .int .i64 0, .int .i64 0, .int .i64 0, .int .i64 0, .int .i64 0, .int .i64 0]) (t := 57) ?hr ?_; (case hd => rfl); (case hg => rfl); (case hr => first | (go_simp; done) | (go_simp; rfl)); intro gx hgx w6 hbox hb; have X6 := Aside0.mk hbox; have B6 := Aside0.mk (below_step B5.out hb); have GX := Aside0.mk (show wr.heap.size ≤ gx by rw [hgx]; exact B5.out.size); clear hbox hb hgx)
                      | ((with_reducible refine gate_store (t := 57) (p := 13) rfl ?_); refine store_row_event rfl rfl 57 (.tmp 13) (.tmp 49) rfl gx #[.int .i64 (y.f0), .int .i64 (y.f1), .int .i64 (y.f2), .int .i64 (y.f3), .int .i64 (y.f4), .int .i64 (y.f5), .int .i64 (y.f6), .int .i64 (y.f7), .int .i64 (y.f8), .int .i64 (y.f9), .int .i64 (y.f10), .int .i64 (y.f11)] rfl rfl 57 _ X6.out (by kernel_rfl) (by first | rfl | kernel_rfl) (by first | rfl | kernel_rfl | simp [Value.oneCell']) ?_; intro w7 hr7 hk7; have X7 := Aside0.mk (show w7.heap[gx]? = some (boxK y) from hr7); have B7 := Aside0.mk (hk7.low B6.out GX.out); have HB7 := Aside0.mk (LkI.below HB.out B7.out); have HL7 := Aside0.mk (blk_below HLR.out B7.out); clear hr7 hk7)
                      | (go_at_call 39; (with_reducible refine (keyK.calls gx y _ ?hx).mono ?_); (case hx => exact X7.out); rintro e w8 ⟨rfl, hb8⟩; have X8 := Aside0.mk (blk_below X7.out hb8); have HL8 := Aside0.mk (blk_below HL7.out hb8); have B8 := Aside0.mk (below_step B7.out hb8); have HB8 := Aside0.mk (LkI.below HB7.out hb8); clear hb8; obtain ⟨vs8, h48, h58, hbx8, htb8, hbel8⟩ := HB8.out; have H48 := Aside0.mk h48; have H58 := Aside0.mk h58; have HBX8 := Aside0.mk hbx8; have HTB8 := Aside0.mk htb8; have HBEL8 := Aside0.mk hbel8; clear h48 h58 hbx8 htb8 hbel8)
                      | (go_at_call 38; (with_reducible refine (putF.calls K gs s.tb s.c (keyK y) false tb2 c2' _ w.heap.size vs8 ?hB ?hb ?hR HP.out).mono ?_); (case hB => exact HBEL8.out.size); (case hb => exact HBX8.out); (case hR => exact HTB8.out); rintro e w9 ⟨rfl, vs9, hb9, hR9, hK9⟩; have HB9 := Aside0.mk (LkI.put H48.out H58.out HBX8.out HTB8.out HBEL8.out GS.out hb9 hR9 hK9); have X9 := Aside0.mk (hK9.keep X8.out (fun z => z.elim (fun e => by have h_ := X8.out; rw [e, HBX8.out] at h_; simp [boxS, boxK] at h_) (fun e => by obtain ⟨_, h_⟩ := Kd.R_typed HTB8.out _ e; rw [X8.out] at h_; simp [boxK] at h_))); have HL9 := Aside0.mk (hK9.keep HL8.out (fun z => z.elim (fun e => by have h_ := blk_lt HL.out; have h2_ := GS.out; omega) (fun e => by have h_ := blk_lt HL.out; have h2_ := Kd.R_base HTB8.out _ e; omega))); clear hb9 hR9 hK9))
                    go_roundg k2
                    case measure => omega
                    case rel => exact ⟨_, _, rfl, by rw [← HNX.out] at HA; exact HA, ⟨by have := HK2.out; omega⟩, HB9⟩

                  | true =>
                    rw [if_pos rfl] at hA
                    obtain ⟨lt, hlt, hA⟩ := Option.bind_eq_some_iff.1 hA
                    obtain ⟨od, hod⟩ : ∃ od, rdOf ByteArray.empty s.ord i = od := ⟨_, rfl⟩
                    rw [hod] at hA
                    by_cases d3 : (od ++ lt).size ≤ 9223372036854775807 ∧ s.st.length < 1099511627776 ∧ s.ord.length < 1099511627776
                    · rw [if_pos d3] at hA
                      have HD3 := Aside0.mk d3
                      have HLT := Aside0.mk hlt
                      have HOD := Aside0.mk hod
                      have hs1 : decide ((od ++ lt).size ≤ 9223372036854775807) = true := decide_eq_true d3.1
                      have hs2 := hs1; (try simp only [ByteArray.size_append] at hs2); have hs3 := of_decide_eq_true hs2; have hs4 := eq_true hs3; have hs5 := eq_false (Nat.not_lt.2 hs3)
                      clear hlt hod d3
                      by_cases d4 : hitK l false y = true
                      · rw [if_pos d4] at hA
                        have d4b : (y.f8 == l.wd) = true := d4
                        have hr := Option.some.inj hA
                        injection hr with e1 e2
                        subst e1
                        subst e2
                        clear hA d4
                        go_wp2_with (first
                          | (go_at_call 37; (with_reducible refine (nextF.calls2 g l ratio side x y _ _ ?hl HN.out).mono ?_); (case hl => exact HLR.out); rintro e w5 ⟨rfl, hb5⟩; have B5 := Aside0.mk hb5; clear hb5)
                          | ((with_reducible refine gate_dst (N := 13) rfl ?_); refine box_event ?hg (N := 13) ?hd (cs := #[.int .i64 0, .int .i64 0, .int .i64 0, .int .i64 0, .int .i64 0, .int .i64 0, .int .i64 0, .int .i64 0, .int .i64 0, .int .i64 0, .int .i64 0, .int .i64 0]) (t := 57) ?hr ?_; (case hd => rfl); (case hg => rfl); (case hr => first | (go_simp; done) | (go_simp; rfl)); intro gx hgx w6 hbox hb; have X6 := Aside0.mk hbox; have B6 := Aside0.mk (below_step B5.out hb); have GX := Aside0.mk (show wr.heap.size ≤ gx by rw [hgx]; exact B5.out.size); clear hbox hb hgx)
                          | ((with_reducible refine gate_store (t := 57) (p := 13) rfl ?_); refine store_row_event rfl rfl 57 (.tmp 13) (.tmp 49) rfl gx #[.int .i64 (y.f0), .int .i64 (y.f1), .int .i64 (y.f2), .int .i64 (y.f3), .int .i64 (y.f4), .int .i64 (y.f5), .int .i64 (y.f6), .int .i64 (y.f7), .int .i64 (y.f8), .int .i64 (y.f9), .int .i64 (y.f10), .int .i64 (y.f11)] rfl rfl 57 _ X6.out (by kernel_rfl) (by first | rfl | kernel_rfl) (by first | rfl | kernel_rfl | simp [Value.oneCell']) ?_; intro w7 hr7 hk7; have X7 := Aside0.mk (show w7.heap[gx]? = some (boxK y) from hr7); have B7 := Aside0.mk (hk7.low B6.out GX.out); have HB7 := Aside0.mk (LkI.below HB.out B7.out); have HL7 := Aside0.mk (blk_below HLR.out B7.out); clear hr7 hk7)
                          | (go_at_call 39; (with_reducible refine (keyK.calls gx y _ ?hx).mono ?_); (case hx => exact X7.out); rintro e w8 ⟨rfl, hb8⟩; have X8 := Aside0.mk (blk_below X7.out hb8); have HL8 := Aside0.mk (blk_below HL7.out hb8); have B8 := Aside0.mk (below_step B7.out hb8); have HB8 := Aside0.mk (LkI.below HB7.out hb8); clear hb8; obtain ⟨vs8, h48, h58, hbx8, htb8, hbel8⟩ := HB8.out; have H48 := Aside0.mk h48; have H58 := Aside0.mk h58; have HBX8 := Aside0.mk hbx8; have HTB8 := Aside0.mk htb8; have HBEL8 := Aside0.mk hbel8; clear h48 h58 hbx8 htb8 hbel8)
                          | (go_at_call 38; (with_reducible refine (putF.calls K gs s.tb s.c (keyK y) true tb2 c2' _ w.heap.size vs8 ?hB ?hb ?hR HP.out).mono ?_); (case hB => exact HBEL8.out.size); (case hb => exact HBX8.out); (case hR => exact HTB8.out); rintro e w9 ⟨rfl, vs9, hb9, hR9, hK9⟩; have HB9 := Aside0.mk (LkI.put H48.out H58.out HBX8.out HTB8.out HBEL8.out GS.out hb9 hR9 hK9); have X9 := Aside0.mk (hK9.keep X8.out (fun z => z.elim (fun e => by have h_ := X8.out; rw [e, HBX8.out] at h_; simp [boxS, boxK] at h_) (fun e => by obtain ⟨_, h_⟩ := Kd.R_typed HTB8.out _ e; rw [X8.out] at h_; simp [boxK] at h_))); have HL9 := Aside0.mk (hK9.keep HL8.out (fun z => z.elim (fun e => by have h_ := blk_lt HL.out; have h2_ := GS.out; omega) (fun e => by have h_ := blk_lt HL.out; have h2_ := Kd.R_base HTB8.out _ e; omega))); clear hb9 hR9 hK9; obtain ⟨vs9, h49, h59, hbx9, htb9, hbel9⟩ := HB9.out; obtain ⟨-, -, hC59⟩ := Kd.R_reads' h59; obtain ⟨ae9, e9, hz5⟩ := Kd.at_string hC59 i i0 I2.out; injection e9 with e9; subst e9; rw [HOD.out] at hz5; obtain ⟨x0, x1, x2, x3, x4, x5, x6, x7, x8, x9, x10, x11⟩ := k_cells X9.out; obtain ⟨l0, l1, l2, l3⟩ := l_cells HL9.out; clear hC59 h49 h59 hbx9 htb9 hbel9))
                        go_quiet (first
                          | ((go_at_call 45; exact Calls.quiet_of ((spec_l05Letter.calls side lt _ HLT.out).mono fun e W hh => ⟨hh.1, drawn_quiet' hh.2⟩))))
                        go_wp2
                        obtain ⟨w10, hw10⟩ : ∃ w10, w9.drewN nq = w10 := ⟨_, rfl⟩
                        rw [hw10]
                        have X10 := Aside0.mk (show w10.heap[gx]? = some (boxK y) by rw [← hw10]; exact X9.out)
                        have HL10 := Aside0.mk (show w10.heap[g]? = some (boxL l) by rw [← hw10]; exact HL9.out)
                        have HB10 := Aside0.mk (show LkI w gs ⟨s.st, s.ord, tb2, c2'⟩ w10 _ _ by rw [← hw10]; exact LkI.below HB9.out (pw_below_drewN (Below.refl _ _) nq))
                        clear hz5 x0 x1 x2 x3 x4 x5 x6 x7 x8 x9 x10 x11 l0 l1 l2 l3 hw10
                        have hz5 : True := trivial
                        obtain ⟨x0, x1, x2, x3, x4, x5, x6, x7, x8, x9, x10, x11⟩ := k_cells X10.out
                        obtain ⟨l0, l1, l2, l3⟩ := l_cells HL10.out
                        go_quiet (fail)

                        go_wp2
                        go_ret2
                        obtain ⟨_, _, _, _, _, h_⟩ := HB10.out
                        exact ⟨rfl, pw_below_drewN h_ _⟩
                      · rw [if_neg d4] at hA
                        have d4b : (y.f8 == l.wd) = false := Bool.eq_false_iff.2 d4
                        have HA := Aside0.mk hA
                        clear hA d4
                        go_wp2_with (first
                          | (go_at_call 37; (with_reducible refine (nextF.calls2 g l ratio side x y _ _ ?hl HN.out).mono ?_); (case hl => exact HLR.out); rintro e w5 ⟨rfl, hb5⟩; have B5 := Aside0.mk hb5; clear hb5)
                          | ((with_reducible refine gate_dst (N := 13) rfl ?_); refine box_event ?hg (N := 13) ?hd (cs := #[.int .i64 0, .int .i64 0, .int .i64 0, .int .i64 0, .int .i64 0, .int .i64 0, .int .i64 0, .int .i64 0, .int .i64 0, .int .i64 0, .int .i64 0, .int .i64 0]) (t := 57) ?hr ?_; (case hd => rfl); (case hg => rfl); (case hr => first | (go_simp; done) | (go_simp; rfl)); intro gx hgx w6 hbox hb; have X6 := Aside0.mk hbox; have B6 := Aside0.mk (below_step B5.out hb); have GX := Aside0.mk (show wr.heap.size ≤ gx by rw [hgx]; exact B5.out.size); clear hbox hb hgx)
                          | ((with_reducible refine gate_store (t := 57) (p := 13) rfl ?_); refine store_row_event rfl rfl 57 (.tmp 13) (.tmp 49) rfl gx #[.int .i64 (y.f0), .int .i64 (y.f1), .int .i64 (y.f2), .int .i64 (y.f3), .int .i64 (y.f4), .int .i64 (y.f5), .int .i64 (y.f6), .int .i64 (y.f7), .int .i64 (y.f8), .int .i64 (y.f9), .int .i64 (y.f10), .int .i64 (y.f11)] rfl rfl 57 _ X6.out (by kernel_rfl) (by first | rfl | kernel_rfl) (by first | rfl | kernel_rfl | simp [Value.oneCell']) ?_; intro w7 hr7 hk7; have X7 := Aside0.mk (show w7.heap[gx]? = some (boxK y) from hr7); have B7 := Aside0.mk (hk7.low B6.out GX.out); have HB7 := Aside0.mk (LkI.below HB.out B7.out); have HL7 := Aside0.mk (blk_below HLR.out B7.out); clear hr7 hk7)
                          | (go_at_call 39; (with_reducible refine (keyK.calls gx y _ ?hx).mono ?_); (case hx => exact X7.out); rintro e w8 ⟨rfl, hb8⟩; have X8 := Aside0.mk (blk_below X7.out hb8); have HL8 := Aside0.mk (blk_below HL7.out hb8); have B8 := Aside0.mk (below_step B7.out hb8); have HB8 := Aside0.mk (LkI.below HB7.out hb8); clear hb8; obtain ⟨vs8, h48, h58, hbx8, htb8, hbel8⟩ := HB8.out; have H48 := Aside0.mk h48; have H58 := Aside0.mk h58; have HBX8 := Aside0.mk hbx8; have HTB8 := Aside0.mk htb8; have HBEL8 := Aside0.mk hbel8; clear h48 h58 hbx8 htb8 hbel8)
                          | (go_at_call 38; (with_reducible refine (putF.calls K gs s.tb s.c (keyK y) true tb2 c2' _ w.heap.size vs8 ?hB ?hb ?hR HP.out).mono ?_); (case hB => exact HBEL8.out.size); (case hb => exact HBX8.out); (case hR => exact HTB8.out); rintro e w9 ⟨rfl, vs9, hb9, hR9, hK9⟩; have HB9 := Aside0.mk (LkI.put H48.out H58.out HBX8.out HTB8.out HBEL8.out GS.out hb9 hR9 hK9); have X9 := Aside0.mk (hK9.keep X8.out (fun z => z.elim (fun e => by have h_ := X8.out; rw [e, HBX8.out] at h_; simp [boxS, boxK] at h_) (fun e => by obtain ⟨_, h_⟩ := Kd.R_typed HTB8.out _ e; rw [X8.out] at h_; simp [boxK] at h_))); have HL9 := Aside0.mk (hK9.keep HL8.out (fun z => z.elim (fun e => by have h_ := blk_lt HL.out; have h2_ := GS.out; omega) (fun e => by have h_ := blk_lt HL.out; have h2_ := Kd.R_base HTB8.out _ e; omega))); clear hb9 hR9 hK9; obtain ⟨vs9, h49, h59, hbx9, htb9, hbel9⟩ := HB9.out; obtain ⟨-, -, hC59⟩ := Kd.R_reads' h59; obtain ⟨ae9, e9, hz5⟩ := Kd.at_string hC59 i i0 I2.out; injection e9 with e9; subst e9; rw [HOD.out] at hz5; obtain ⟨x0, x1, x2, x3, x4, x5, x6, x7, x8, x9, x10, x11⟩ := k_cells X9.out; obtain ⟨l0, l1, l2, l3⟩ := l_cells HL9.out; clear hC59 h49 h59 hbx9 htb9 hbel9))
                        go_quiet (first
                          | ((go_at_call 45; exact Calls.quiet_of ((spec_l05Letter.calls side lt _ HLT.out).mono fun e W hh => ⟨hh.1, drawn_quiet' hh.2⟩))))
                        go_wp2
                        obtain ⟨w10, hw10⟩ : ∃ w10, w9.drewN nq = w10 := ⟨_, rfl⟩
                        rw [hw10]
                        have X10 := Aside0.mk (show w10.heap[gx]? = some (boxK y) by rw [← hw10]; exact X9.out)
                        have HL10 := Aside0.mk (show w10.heap[g]? = some (boxL l) by rw [← hw10]; exact HL9.out)
                        have HB10 := Aside0.mk (show LkI w gs ⟨s.st, s.ord, tb2, c2'⟩ w10 _ _ by rw [← hw10]; exact LkI.below HB9.out (pw_below_drewN (Below.refl _ _) nq))
                        clear hz5 x0 x1 x2 x3 x4 x5 x6 x7 x8 x9 x10 x11 l0 l1 l2 l3 hw10
                        have hz5 : True := trivial
                        obtain ⟨x0, x1, x2, x3, x4, x5, x6, x7, x8, x9, x10, x11⟩ := k_cells X10.out
                        obtain ⟨l0, l1, l2, l3⟩ := l_cells HL10.out
                        go_quiet (fail)

                        obtain ⟨w11, hw11⟩ : ∃ w11, w10.drewN nq = w11 := ⟨_, rfl⟩
                        rw [hw11]
                        have X11 := Aside0.mk (show w11.heap[gx]? = some (boxK y) by rw [← hw11]; exact X10.out)
                        have HB11 := Aside0.mk (show LkI w gs ⟨s.st, s.ord, tb2, c2'⟩ w11 _ _ by rw [← hw11]; exact LkI.below HB10.out (pw_below_drewN (Below.refl _ _) nq))
                        clear hz5 x0 x1 x2 x3 x4 x5 x6 x7 x8 x9 x10 x11 l0 l1 l2 l3 hw11
                        obtain ⟨vs9, h49, h59, hbx9, htb9, hbel9⟩ := HB11.out
                        have H49 := Aside0.mk h49
                        have H59 := Aside0.mk h59
                        have HBX9 := Aside0.mk hbx9
                        have HTB9 := Aside0.mk htb9
                        have HBEL9 := Aside0.mk hbel9
                        clear h49 h59 hbx9 htb9 hbel9
                        go_wp2_with (first
                          | ((with_reducible refine gate_dst (N := 87) rfl ?_); refine load_row_event rfl 57 (.tmp 13) rfl gx rfl 57 #[.int .i64 (y.f0), .int .i64 (y.f1), .int .i64 (y.f2), .int .i64 (y.f3), .int .i64 (y.f4), .int .i64 (y.f5), .int .i64 (y.f6), .int .i64 (y.f7), .int .i64 (y.f8), .int .i64 (y.f9), .int .i64 (y.f10), .int .i64 (y.f11)] _ X11.out HU.out rfl (by kernel_rfl) ?_)
                          | ((with_reducible refine gate_builtin (b := .append) (xs := #[.tmp 86, .tmp 88]) rfl ?_); at_builtin; refine Kd.R_append k57 (w0 := w) w.heap.size rfl (.tmp 86) (.tmp 88) 59 57 (.agg #[.int .i64 0, .int .i64 0, .int .i64 0, .int .i64 0, .int .i64 0, .int .i64 0, .int .i64 0, .int .i64 0, .int .i64 0, .int .i64 0, .int .i64 0, .int .i64 0]) 96 rfl Try.underlying59 info57 rfl (by decide) (by omega) (.slice (some ad) s.st.length p4) s.st y [.int .i64 (y.f0), .int .i64 (y.f1), .int .i64 (y.f2), .int .i64 (y.f3), .int .i64 (y.f4), .int .i64 (y.f5), .int .i64 (y.f6), .int .i64 (y.f7), .int .i64 (y.f8), .int .i64 (y.f9), .int .i64 (y.f10), .int .i64 (y.f11)] (fun _ => True) (fun _ => False) rfl rfl ?aP (fun _ hk => hk.elim) ?aF ?aO ?aB ?aS ?aL ?_; (case aP => exact k57_mkM _ _ _ y); (case aF => exact (fun _ _ => trivial)); (case aO => exact H49.out); (case aB => exact HBEL9.out); (case aS => exact HBEL9.out.size); (case aL => have := HD3.out; omega); intro v10 w12 ho hb hg hat; have O4 := Aside0.mk ho; have O5 := Aside0.mk (Kd.R_over H59.out H49.out (by decide) hg); have BX10 := Aside0.mk (blk_grown HBX9.out hg (Kd.R_ne H49.out HBX9.out (by decide))); have TB10 := Aside0.mk (show RI w12 w.heap.size vs9 tb2 from Kd.R_over HTB9.out H49.out (by decide) hg); have B10 := Aside0.mk hb; clear ho hb hg hat)
                          | ((with_reducible refine gate_builtin (b := .append) (xs := #[.tmp 90, .tmp 92]) rfl ?_); at_builtin; refine Kd.R_append Kd.string (w0 := w) w.heap.size rfl (.tmp 90) (.tmp 92) 75 9 (.string ByteArray.empty) 16 rfl Try.underlying75 infoStrK rfl (by decide) (by omega) (.slice (some ae) s.ord.length p5) s.ord (od ++ lt) [.string (od ++ lt)] (fun _ => True) (fun _ => False) rfl rfl ?aP (fun _ hk => hk.elim) ?aF ?aO ?aB ?aS ?aL ?_; (case aP => exact rfl); (case aF => exact (fun _ _ => trivial)); (case aO => exact O5.out); (case aB => exact B10.out); (case aS => exact B10.out.size); (case aL => have := HD3.out; omega); intro v11 w13 ho hb hg hat; have HB13 := Aside0.mk (show LkI w gs ⟨s.st ++ [y], s.ord ++ [od ++ lt], tb2, c2'⟩ w13 v10 v11 from ⟨vs9, Kd.R_over O4.out O5.out (by decide) hg, ho, blk_grown BX10.out hg (Kd.R_ne O5.out BX10.out (by decide)), Kd.R_over TB10.out O5.out (by decide) hg, hb⟩); clear ho hb hg hat))
                        go_roundg k2
                        case measure => omega
                        case rel => exact ⟨_, _, rfl, by rw [← HNX.out] at HA; exact HA, ⟨by have := HK2.out; omega⟩, HB13⟩

                    · rw [if_neg d3] at hA; cases hA

              · rw [if_neg c1] at hA; cases hA
            · rw [if_neg c2] at hA
              have c2b : decide (side < 2) = false := decide_eq_false c2
              have HA := Aside0.mk hA
              clear hA h4 h5 hbx htb hbel hp4 hC4 hp5 hC5 c2
              go_wp2
              go_roundg k1
              case measure => omega
              case rel => exact ⟨_, _, rfl, HA, ⟨by have h1_ := HI0.out; have h2_ := HI1.out; unfold wrap64; omega⟩, ⟨by have := HK1.out; omega⟩, HB⟩
      · rw [if_neg c1] at hA
        have c1b : decide (i < (s.st.length : Int)) = false := decide_eq_false c1
        have hr := Option.some.inj hA
        injection hr with e1 e2
        subst e1
        subst e2
        clear hA h4 h5 hbx htb hp4 hC4 c1
        go_wp2
        go_ret2
        exact ⟨rfl, hbel⟩
end Go.Proofs.Ytgmnbpdfdagniaa.A
