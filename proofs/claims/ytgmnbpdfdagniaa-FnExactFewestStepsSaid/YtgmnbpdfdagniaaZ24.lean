/- Texts of this claim, put together by this session's pack2.py: each part is introduced by its own comment. No conditions. -/
import Derived.Test.YtgmnbpdfdagniaaZ23
/- The set of numbers in a table (the reference): what put does. No conditions. -/
namespace Go.Proofs.Ytgmnbpdfdagniaa.A
open Go.RowKit Go.Proofs.YtgmnbpdfdagniaaW.PrintWords Go.Proofs.YtgmnbpdfdagniaaW.PrintLast Go.Proofs.YtgmnbpdfdagniaaW.PrintMore
set_option linter.unusedVariables false
set_option linter.unusedSimpArgs false
theorem infoInt : (Try.prog.info? 2).map (fun i => (i.zero, i.size, i.bytes)) = some (some (.int .i64 0), 1, 8) := by kernel_rfl
/-- From a place on, the first one that is free or has the number. -/
def probe : Nat → List Int → Int → Int → Option Int
  | 0, _, _, _ => none
  | k + 1, tb, key, at_ => if 0 ≤ at_ ∧ at_ < tb.length then (if 0 < rd tb at_ ∧ ¬ rd tb at_ = wrap64 (key + 1) then probe k tb key (Int.tmod (wrap64 (at_ + 1)) tb.length) else some at_) else none
def putAll (rec : List Int → Int → Int → Option (Bool × List Int × Int)) : List Int → List Int → Int → Option (List Int × Int)
  | [], tb, c => some (tb, c)
  | x :: xs, tb, c => if 0 < x then (rec tb c (wrap64 (x - 1))).bind fun r => putAll rec xs r.2.1 r.2.2 else putAll rec xs tb c
def putEnd (k : Nat) (tb : List Int) (c key : Int) : Option (Bool × List Int × Int) :=
  if (tb.length : Int) = 0 then none else
  (probe k tb key (Int.tmod key tb.length)).bind fun p =>
  if 0 ≤ p ∧ p < tb.length then (if 0 < rd tb p then some (false, tb, c) else some (true, tb.set p.toNat (wrap64 (key + 1)), wrap64 (c + 1))) else none
/-- A number is put into a table. -/
def putF : Nat → List Int → Int → Int → Option (Bool × List Int × Int)
  | 0, _, _, _ => none
  | k + 1, tb, c, key =>
    if 4398046511104 ≤ tb.length then none else
    if (tb.length : Int) ≤ wrap64 (2 * c) then (putAll (putF k) tb (List.replicate (2 * tb.length + 64) 0) 0).bind fun t => putEnd k t.1 t.2 key
    else putEnd k tb c key
def boxS (v : Value) (c : Int) : Obj := .cells #[v, .int .i64 c] 63 (0, 0)
theorem s_cells {w : World} {g : Nat} {v : Value} {c : Int} (h : w.heap[g]? = some (boxS v c)) : w.cell? ⟨g, 0, none⟩ = some v ∧ w.cell? ⟨g, 1, none⟩ = some (.int .i64 c) := ⟨(blk_cell h 0).trans rfl, (blk_cell h 1).trans rfl⟩
abbrev RI (w : World) (B : Nat) (v : Value) (tb : List Int) : Prop := (Kd.int .i64).R 2 w B (fun _ => True) v tb
/-- A table of which something else has changed. -/
theorem RI.keep {w w' : World} {B : Nat} {v : Value} {tb : List Int} {S : Nat → Prop} (h : RI w B v tb) (k : KS S w w') (hS : ∀ i, v.ownBlock = some i → ¬ S i) : RI w' B v tb :=
  Kd.R_mono (Kd.R_step (Kd.R_tight rfl h) (fun i hi hlt => k.block i hlt (hS i hi.symm))) (fun _ _ => trivial)
theorem RI.box_ne {w : World} {B gs : Nat} {v u : Value} {c : Int} {tb : List Int} (h : RI w B v tb) (hb : w.heap[gs]? = some (boxS u c)) : ∀ i, v.ownBlock = some i → i ≠ gs := by
  intro i hi e
  subst e
  exact Kd.R_ne h hb (by decide) hi.symm
theorem RI.lower {w : World} {B B' : Nat} {v : Value} {tb : List Int} (h : RI w B v tb) (hb : B' ≤ B) : RI w B' v tb := Kd.R_lower h hb
theorem KS.widen {S S' : Nat → Prop} {w w' : World} (h : KS S w w') (hs : ∀ i, S i → S' i) : KS S' w w' := ⟨h.os, h.tape, h.output, h.size, fun i hi hn => h.block i hi (fun z => hn (hs i z))⟩
theorem putEnd_len {k : Nat} {tb : List Int} {c key : Int} {r : Bool} {tb' : List Int} {c' : Int} (h : putEnd k tb c key = some (r, tb', c')) : tb'.length = tb.length := by
  unfold putEnd at h
  split at h
  · cases h
  · obtain ⟨p, _, h⟩ := Option.bind_eq_some_iff.1 h
    split at h
    · split at h
      · cases h; rfl
      · cases h; simp
    · cases h
theorem putAll_len {rec : List Int → Int → Int → Option (Bool × List Int × Int)} (hrec : ∀ tb c key r tb' c', rec tb c key = some (r, tb', c') → tb'.length ≤ 8796093022272) : ∀ (xs tb : List Int) (c : Int) {t : List Int} {c' : Int}, putAll rec xs tb c = some (t, c') → tb.length ≤ 8796093022272 → t.length ≤ 8796093022272
  | [], tb, c, t, c', h, hl => by simp only [putAll] at h; cases h; exact hl
  | x :: xs, tb, c, t, c', h, hl => by
    simp only [putAll] at h
    split at h
    · obtain ⟨⟨r, t1, c1⟩, h1, h⟩ := Option.bind_eq_some_iff.1 h
      exact putAll_len hrec xs t1 c1 h (hrec _ _ _ _ _ _ h1)
    · exact putAll_len hrec xs tb c h hl
theorem putF_len : ∀ (k : Nat) {tb : List Int} {c key : Int} {r : Bool} {tb' : List Int} {c' : Int}, putF k tb c key = some (r, tb', c') → tb'.length ≤ 8796093022272
  | 0, tb, c, key, r, tb', c', h => by simp [putF] at h
  | k + 1, tb, c, key, r, tb', c', h => by
    simp only [putF] at h
    split at h
    · cases h
    · split at h
      · obtain ⟨⟨t1, c1⟩, h1, h⟩ := Option.bind_eq_some_iff.1 h
        rw [putEnd_len h]
        exact putAll_len (fun _ _ _ _ _ _ h => putF_len k h) tb _ _ h1 (by rw [List.length_replicate]; omega)
      · rw [putEnd_len h]; omega
/-- What put leaves. -/
def PutPost (w : World) (gs B : Nat) (v : Value) (r : Bool) (tb : List Int) (c : Int) (e : Ending) (w' : World) : Prop :=
  e = .returned (.bool r) ∧ ∃ v', w'.heap[gs]? = some (boxS v' c) ∧ RI w' B v' tb ∧ KS (fun i => i = gs ∨ v.ownBlock = some i) w w'
set_option maxHeartbeats 6400000 in
set_option maxRecDepth 100000 in
theorem putF.calls : ∀ (k gs : Nat) (tb : List Int) (c key : Int) (r : Bool) (tb' : List Int) (c' : Int) (w : World) (B : Nat) (v : Value), B ≤ w.heap.size → w.heap[gs]? = some (boxS v c) → RI w B v tb → putF k tb c key = some (r, tb', c') →
    Calls Try.prog 38 #[.pointer (some ⟨gs, 0, none⟩), .int .i64 key] w (PutPost w gs B v r tb' c') := by
  intro k
  induction k with
  | zero => intro gs tb c key r tb' c' w B v _ _ _ h; simp [putF] at h
  | succ k ih =>
    intro gs tb c key r tb' c' w B v hB hb hR h
    simp only [putF] at h
    by_cases c0 : 4398046511104 ≤ tb.length
    · rw [if_pos c0] at h; cases h
    rw [if_neg c0] at h
    by_cases c1 : (tb.length : Int) ≤ wrap64 (2 * c)
    · rw [if_pos c1] at h
      have c1b := decide_eq_true c1
      replace h := Option.bind_eq_some_iff.1 h
      obtain ⟨⟨tb1, cc1⟩, ht, h⟩ := h
      dsimp only at h
      obtain ⟨A, cp0, rfl, hcp, hC⟩ := Kd.R_reads hR
      obtain ⟨z0, z1⟩ := s_cells hb
      have hs0 := blk_frozen hb 0
      have hs1 := blk_frozen hb 1
      have HBX := Aside0.mk hb
      have HR := Aside0.mk hR
      have HT := Aside0.mk ht
      have HT0 := Aside0.mk (putAll_len (fun _ _ _ _ _ _ h => putF_len k h) tb _ _ ht (by rw [List.length_replicate]; omega))
      have H0 := Aside0.mk h
      have c0' : tb.length < 4398046511104 := by omega
      have HOLD := Aside0.mk (fun i hi => (⟨Kd.R_lt hR i hi, RI.box_ne hR hb i hi⟩ : i < w.heap.size ∧ i ≠ gs))
      clear hb hR ht h c1 hcp hC
      obtain ⟨N, hN⟩ : ∃ N : Nat, 2 * tb.length + 64 = N := ⟨_, rfl⟩
      have HNT := Aside0.mk (show (2 * (tb.length : Int) + 64).toNat = N by omega)
      have hN0 : 0 < N := by omega
      go_enter Try.func38, Try.ntmps38
      go_wp2
      go_quiet (fail)
      go_wp2_with (first
        | ((with_reducible refine gate_dst (N := 28) rfl ?_); refine Kd.R_make (Kd.int .i64) _ 2 rfl (N := 28) rfl 61 _ _ rfl _ rfl rfl Try.underlying61 (.int .i64 0) 8 infoInt rfl (by decide) (by omega) 0 (ok := fun _ => True) (okp := fun _ => True) rfl (fun _ hk => hk) trivial ?h0 ?hl (Below.refl _ _) (Nat.le_refl _) ?_; (case h0 => omega); (case hl => rw [HNT.out, ← hN]; omega); intro v1 w1 hR1 hb1 hg1 hnew1; clear hg1 hnew1; rw [HNT.out] at hR1; obtain ⟨g1, cp1, e1, -, -, -⟩ := Kd.R_form hR1 (by rw [List.length_replicate]; exact hN0); rw [List.length_replicate] at e1; subst e1; have HR1 := Aside0.mk (show RI w1 w.heap.size _ (List.replicate N 0) from hR1); have BX1 := Aside0.mk (blk_below (blk_drewN HBX.out nq) hb1); have KS1 := Aside0.mk (KS.below (KS.drewN (KS.refl (fun i => i = gs) w) nq) hb1); have OLD1 := Aside0.mk (show RI w1 B (.slice A tb.length cp0) tb from Kd.R_below (Kd.R_drewN HR.out nq) hb1); have y0 := blk_frozen BX1.out 0; have y1 := blk_frozen BX1.out 1; obtain ⟨z0, z1⟩ := s_cells BX1.out; clear hb1 hR1))
      go_loopw [6] (fun v6 wr => ∃ (i : Nat) (t2 : List Int) (c2 : Int) (v2 : Value), i ≤ tb.length ∧ v6 = .int .i64 (i : Int) ∧ Aside0 (putAll (putF k) (tb.drop i) t2 c2 = some (tb1, cc1)) ∧ Aside0 (wr.heap[gs]? = some (boxS v2 c2)) ∧ Aside0 (RI wr w.heap.size v2 t2) ∧ Aside0 (RI wr B (.slice A tb.length cp0) tb) ∧ Aside0 (KS (fun i => i = gs) w wr)) (fun v6 _ => tb.length - (intOf v6).toNat)
      case atStart =>
        have hne : ∀ i, (Value.slice (some ⟨g1, 0, none⟩) N cp1).ownBlock = some i → i ≠ gs := RI.box_ne HR1.out BX1.out
        refine ⟨0, _, 0, _, Nat.zero_le _, rfl, ⟨by rw [hN] at HT; exact HT.out⟩, ⟨blk_put (blk_put BX1.out 0 _ rfl) 1 _ rfl⟩, ⟨RI.keep HR1.out (KS.set (KS.set (KS.refl (fun i => i = gs) _) gs 0 _ (fun _ => rfl)) gs 1 _ (fun _ => rfl)) hne⟩, ⟨RI.keep OLD1.out (KS.set (KS.set (KS.refl (fun i => i = gs) _) gs 0 _ (fun _ => rfl)) gs 1 _ (fun _ => rfl)) (fun i hi => (HOLD.out i hi).2)⟩, ⟨KS.set (KS.set KS1.out gs 0 _ (fun _ => rfl)) gs 1 _ (fun _ => rfl)⟩⟩
      case round =>
        obtain ⟨i, t2, c2, v2, hi, rfl, HT, HBX2, HR2, HOR, HK⟩ := hrel
        by_cases hlt : i < tb.length
        · have hcd : decide ((i : Int) < (tb.length : Int)) = true := decide_eq_true (by omega)
          obtain ⟨-, -, hC⟩ := Kd.R_reads' HOR.out
          obtain ⟨ad, rfl, hx0⟩ := Kd.at_int hC (i : Int) (by omega) (by omega)
          obtain ⟨x, hx⟩ : ∃ x, rd tb (i : Int) = x := ⟨_, rfl⟩
          rw [Int.toNat_natCast, hx] at hx0
          have hd : tb.drop i = x :: tb.drop (i + 1) := by
            rw [List.drop_eq_getElem_cons hlt, ← hx]; simp [rd, hlt]
          have hT := HT.out
          rw [hd] at hT
          simp only [putAll] at hT
          have i0 : (0 : Int) ≤ (i : Int) := by omega
          have i1 : (i : Int) < (tb.length : Int) := by omega
          by_cases d0 : 0 < x
          · rw [if_pos d0] at hT
            have d0b := decide_eq_true d0
            replace hT := Option.bind_eq_some_iff.1 hT
            obtain ⟨⟨r1, t3, c3⟩, hr1, hT⟩ := hT
            have HP1 := Aside0.mk hr1
            have HT := Aside0.mk hT
            clear hT hr1 d0 hC hx hd
            go_wp2_with (first
              | (go_at_call 38; (with_reducible refine (ih gs t2 c2 (wrap64 (x - 1)) r1 t3 c3 _ w.heap.size v2 ?hB ?hb ?hR HP1.out).mono ?_); (case hB => exact HK.out.size); (case hb => exact HBX2.out); (case hR => exact HR2.out); rintro e w3 ⟨rfl, v3, hb3, hR3, hK3⟩; have BX3 := Aside0.mk hb3; have R3 := Aside0.mk hR3; have K3 := Aside0.mk hK3; clear hb3 hR3 hK3))
            refine ⟨⟨i + 1, t3, c3, v3, by omega, by go_num, HT, BX3, R3, ?_, ?_⟩, by simp [intOf]; omega⟩
            · exact ⟨RI.keep HOR.out K3.out (fun q hq z => by
                have h1 := HOLD.out q hq
                rcases z with z | z
                · exact h1.2 z
                · have := Kd.R_base HR2.out q z; omega)⟩
            · exact ⟨KS.then HK.out K3.out (fun q hq z => z.elim id (fun z => by have := Kd.R_base HR2.out q z; omega))⟩
          · rw [if_neg d0] at hT
            have d0b := decide_eq_false d0
            have HT := Aside0.mk hT
            clear hT d0 hC hx hd
            go_wp2
            exact ⟨⟨i + 1, t2, c2, v2, by omega, by go_num, HT, HBX2, HR2, HOR, HK⟩, by simp [intOf]; omega⟩
        · have hcd : decide ((i : Int) < (tb.length : Int)) = false := decide_eq_false (by omega)
          obtain rfl : i = tb.length := by omega
          have hT := HT.out
          rw [List.drop_length] at hT
          simp only [putAll] at hT
          injection hT with hT
          injection hT with e1 e2
          subst e1
          subst e2
          have h := H0.out
          unfold putEnd at h
          by_cases d2 : (t2.length : Int) = 0
          · rw [if_pos d2] at h; cases h
          rw [if_neg d2] at h
          have d2b : ((t2.length : Int) == 0) = false := beq_eq_false_iff_ne.2 d2
          replace h := Option.bind_eq_some_iff.1 h
          obtain ⟨p, hp, h⟩ := h
          obtain ⟨g1', cp', e1, -, -, -⟩ := Kd.R_form HR2.out (show 0 < t2.length by omega)
          subst e1
          have HP := Aside0.mk hp
          have H := Aside0.mk h
          have hnew := Kd.R_base HR2.out g1' rfl
          have hlen2 := HT0.out
          obtain ⟨z0, z1⟩ := s_cells HBX2.out
          clear hp h
          go_wp2
          go_loopg [7] k (fun kq v7 wr => ∃ at_ : Int, v7 = .int .i64 at_ ∧ Aside0 (probe kq t2 key at_ = some p) ∧ Aside0 (kq ≤ k) ∧ Aside0 (wr.heap[gs]? = some (boxS (.slice (some ⟨g1', 0, none⟩) t2.length cp') c2)) ∧ Aside0 (RI wr B (.slice (some ⟨g1', 0, none⟩) t2.length cp') t2) ∧ Aside0 (KS (fun i => i = gs ∨ (Value.slice A tb.length cp0).ownBlock = some i) w wr))
          case atStart => exact ⟨_, rfl, HP, ⟨Nat.le_refl _⟩, ⟨HBX2.out⟩, ⟨RI.lower HR2.out hB⟩, ⟨KS.widen HK.out (fun i h => .inl h)⟩⟩
          case round =>
            obtain ⟨at_, rfl, HA, HK1, HBX, HR, HK⟩ := hrel
            cases gk with
            | zero => exact absurd HA.out (by simp [probe])
            | succ k1 =>
              have hA := HA.out
              clear HA
              simp only [probe] at hA
              by_cases d0 : 0 ≤ at_ ∧ at_ < t2.length
              · rw [if_pos d0] at hA
                obtain ⟨i0, i1⟩ := d0
                obtain ⟨z0, z1⟩ := s_cells HBX.out
                obtain ⟨y0, y1⟩ := Kd.R_celln 0 HR.out at_ i0 i1
                change wr.cell? _ = some (.int .i64 (rd t2 at_)) at y0
                by_cases d1 : 0 < rd t2 at_
                · have d1b := decide_eq_true d1
                  by_cases d2 : rd t2 at_ = wrap64 (key + 1)
                  · rw [if_neg (fun z => z.2 d2)] at hA
                    obtain rfl := Option.some.inj hA
                    have d2b : (rd t2 at_ != wrap64 (key + 1)) = false := by rw [d2]; simp
                    have h := H.out
                    rw [if_pos ⟨i0, i1⟩, if_pos d1] at h
                    cases h
                    clear hA d2 d1
                    go_wp2
                    go_ret
                    exact ⟨rfl, _, HBX.out, HR.out, HK.out⟩
                  · rw [if_pos ⟨d1, d2⟩] at hA
                    have d2b : (rd t2 at_ != wrap64 (key + 1)) = true := by simpa using d2
                    rw [show Int.tmod (wrap64 (at_ + 1)) (t2.length : Int) = (at_ + 1) % (t2.length : Int) by rw [show wrap64 (at_ + 1) = at_ + 1 by unfold wrap64; omega, Int.tmod_eq_emod_of_nonneg (by omega)]] at hA
                    have HA := Aside0.mk hA
                    clear hA d2 d1
                    go_wp2
                    go_roundg k1
                    case measure => have := HK1.out; omega
                    case rel => exact ⟨_, rfl, HA, ⟨by have := HK1.out; omega⟩, HBX, HR, HK⟩
                · rw [if_neg (fun z => d1 z.1)] at hA
                  obtain rfl := Option.some.inj hA
                  have d1b := decide_eq_false d1
                  have h := H.out
                  rw [if_pos ⟨i0, i1⟩, if_neg d1] at h
                  cases h
                  have s1 := blk_frozen HBX.out 1
                  clear hA d1
                  have hne := RI.box_ne HR.out HBX.out g1' rfl
                  have hne' := Ne.symm hne
                  go_wp2
                  go_ret
                  refine ⟨rfl, _, blk_put (blk_far HBX.out (Ne.symm hne) _) 1 _ rfl, ?_, ?_⟩
                  · exact RI.keep (Kd.R_putn HR.out at_ (wrap64 (key + 1))) (KS.set (KS.refl (fun i => i = gs) _) gs 1 _ (fun _ => rfl)) (fun i hi e => hne (by rw [← e]; exact (Option.some.inj hi)))
                  · exact KS.set (KS.set HK.out g1' _ _ (fun hlt => by omega)) gs 1 _ (fun _ => .inl rfl)
              · rw [if_neg d0] at hA; cases hA
    · rw [if_neg c1] at h
      have c1b := decide_eq_false c1
      unfold putEnd at h
      by_cases c2 : (tb.length : Int) = 0
      · rw [if_pos c2] at h; cases h
      rw [if_neg c2] at h
      have c2b : ((tb.length : Int) == 0) = false := beq_eq_false_iff_ne.2 c2
      replace h := Option.bind_eq_some_iff.1 h
      obtain ⟨p, hp, h⟩ := h
      obtain ⟨g1, cp, rfl, -, -, -⟩ := Kd.R_form hR (show 0 < tb.length by omega)
      obtain ⟨z0, z1⟩ := s_cells hb
      have HBX := Aside0.mk hb
      have HR := Aside0.mk hR
      have HP := Aside0.mk hp
      have H := Aside0.mk h
      clear hb hR hp h c1
      go_enter Try.func38, Try.ntmps38
      go_wp2
      go_quiet (fail)
      go_wp2
      have K0 := Aside0.mk (KS.refl (fun i => i = gs ∨ (Value.slice (some ⟨g1, 0, none⟩) tb.length cp).ownBlock = some i) w)
      go_loopg [7] k (fun kq v7 wr => ∃ at_ : Int, v7 = .int .i64 at_ ∧ Aside0 (probe kq tb key at_ = some p) ∧ Aside0 (kq ≤ k) ∧ Aside0 (wr.heap[gs]? = some (boxS (.slice (some ⟨g1, 0, none⟩) tb.length cp) c)) ∧ Aside0 (RI wr B (.slice (some ⟨g1, 0, none⟩) tb.length cp) tb) ∧ Aside0 (KS (fun i => i = gs ∨ (Value.slice (some ⟨g1, 0, none⟩) tb.length cp).ownBlock = some i) w wr))
      case atStart => exact ⟨_, rfl, HP, ⟨Nat.le_refl _⟩, ⟨HBX.out⟩, ⟨Kd.R_drewN HR.out _⟩, ⟨KS.drewN K0.out _⟩⟩
      case round =>
        obtain ⟨at_, rfl, HA, HK1, HBX, HR, HK⟩ := hrel
        cases gk with
        | zero => exact absurd HA.out (by simp [probe])
        | succ k1 =>
          have hA := HA.out
          clear HA
          simp only [probe] at hA
          by_cases d0 : 0 ≤ at_ ∧ at_ < tb.length
          · rw [if_pos d0] at hA
            obtain ⟨i0, i1⟩ := d0
            obtain ⟨z0, z1⟩ := s_cells HBX.out
            obtain ⟨y0, y1⟩ := Kd.R_celln 0 HR.out at_ i0 i1
            change wr.cell? _ = some (.int .i64 (rd tb at_)) at y0
            by_cases d1 : 0 < rd tb at_
            · have d1b := decide_eq_true d1
              by_cases d2 : rd tb at_ = wrap64 (key + 1)
              · rw [if_neg (fun z => z.2 d2)] at hA
                obtain rfl := Option.some.inj hA
                have d2b : (rd tb at_ != wrap64 (key + 1)) = false := by rw [d2]; simp
                have h := H.out
                rw [if_pos ⟨i0, i1⟩, if_pos d1] at h
                cases h
                clear hA d2 d1
                go_wp2
                go_ret
                exact ⟨rfl, _, HBX.out, HR.out, HK.out⟩
              · rw [if_pos ⟨d1, d2⟩] at hA
                have d2b : (rd tb at_ != wrap64 (key + 1)) = true := by simpa using d2
                rw [show Int.tmod (wrap64 (at_ + 1)) (tb.length : Int) = (at_ + 1) % (tb.length : Int) by rw [show wrap64 (at_ + 1) = at_ + 1 by unfold wrap64; omega, Int.tmod_eq_emod_of_nonneg (by omega)]] at hA
                have HA := Aside0.mk hA
                clear hA d2 d1
                go_wp2
                go_roundg k1
                case measure => have := HK1.out; omega
                case rel => exact ⟨_, rfl, HA, ⟨by have := HK1.out; omega⟩, HBX, HR, HK⟩
            · rw [if_neg (fun z => d1 z.1)] at hA
              obtain rfl := Option.some.inj hA
              have d1b := decide_eq_false d1
              have h := H.out
              rw [if_pos ⟨i0, i1⟩, if_neg d1] at h
              cases h
              have s1 := blk_frozen HBX.out 1
              clear hA d1
              have hne := RI.box_ne HR.out HBX.out g1 rfl
              have hne' := Ne.symm hne
              go_wp2
              go_ret
              refine ⟨rfl, _, blk_put (blk_far HBX.out (Ne.symm hne) _) 1 _ rfl, ?_, ?_⟩
              · exact RI.keep (Kd.R_putn HR.out at_ (wrap64 (key + 1))) (KS.set (KS.refl (fun i => i = gs) _) gs 1 _ (fun _ => rfl)) (fun i hi e => hne (by rw [← e]; exact (Option.some.inj hi)))
              · exact KS.set (KS.set HK.out g1 _ _ (fun hlt => .inr rfl)) gs 1 _ (fun _ => .inl rfl)
          · rw [if_neg d0] at hA; cases hA
end Go.Proofs.Ytgmnbpdfdagniaa.A
/- The table of numbers (linear probing, no number is ever taken out): put tells whether a number is new. No conditions. -/
namespace Go.Proofs.Ytgmnbpdfdagniaa.A
open Go.RowKit Go.Proofs.YtgmnbpdfdagniaaW.PrintWords Go.Proofs.YtgmnbpdfdagniaaW.PrintLast Go.Proofs.YtgmnbpdfdagniaaW.PrintMore
set_option linter.unusedVariables false
set_option linter.unusedSimpArgs false
/-- The place d behind a number's own one. -/
def slot (n : Nat) (k : Int) (d : Nat) : Nat := (k.toNat + d) % n
/-- A table holds the numbers of which M tells: each lies behind its own place with no gap between; c places are taken. -/
structure Good (tb : List Int) (c : Int) (M : Int → Prop) : Prop where
  nn : ∀ p, 0 ≤ tb.getD p 0
  sound : ∀ p, 0 < tb.getD p 0 → M (tb.getD p 0 - 1)
  path : ∀ k, M k → 0 ≤ k ∧ ∃ d, d < tb.length ∧ tb.getD (slot tb.length k d) 0 = k + 1 ∧ ∀ e, e < d → 0 < tb.getD (slot tb.length k e) 0
  count : c = ((tb.filter (fun x => decide (0 < x))).length : Int)
theorem filter_set (p : Int → Bool) : ∀ (l : List Int) (i : Nat) (v : Int), i < l.length → p (l.getD i 0) = false → p v = true → ((l.set i v).filter p).length = (l.filter p).length + 1
  | [], i, v, h, _, _ => by simp at h
  | x :: xs, 0, v, h, hx, hv => by
    have hx' : p x = false := by simpa using hx
    simp [List.set, List.filter_cons, hx', hv]
  | x :: xs, i + 1, v, h, hx, hv => by
    have ih := filter_set p xs i v (by simpa using h) (by simpa using hx) hv
    simp only [List.set_cons_succ, List.filter_cons]
    split <;> simp [ih]
theorem filter_all (p : Int → Bool) : ∀ (l : List Int), (∀ i, i < l.length → p (l.getD i 0) = true) → (l.filter p).length = l.length
  | [], _ => rfl
  | x :: xs, h => by
    have h0 : p x = true := by simpa using h 0 (by simp)
    have ih := filter_all p xs (fun i hi => by simpa using h (i + 1) (by simpa using hi))
    simp [List.filter_cons, h0, ih]
/-- The first place behind that is free or has the number. -/
theorem probe_finds (tb : List Int) (key : Int) (hk : 0 ≤ key) (hk2 : key < 4611686018427387904) (hn : 0 < tb.length) (hl : tb.length < 1099511627776) : ∀ (d s K : Nat), d < K → (∀ e, e < d → 0 < tb.getD (slot tb.length key (s + e)) 0 ∧ tb.getD (slot tb.length key (s + e)) 0 ≠ key + 1) → ¬ (0 < tb.getD (slot tb.length key (s + d)) 0 ∧ tb.getD (slot tb.length key (s + d)) 0 ≠ key + 1) →
    probe K tb key (slot tb.length key s : Nat) = some ((slot tb.length key (s + d) : Nat) : Int) := by
  intro d
  induction d with
  | zero =>
    intro s K hK _ hs
    rw [Nat.add_zero] at hs
    obtain ⟨K, rfl⟩ : ∃ m, K = m + 1 := ⟨K - 1, by omega⟩
    have hlt : slot tb.length key s < tb.length := Nat.mod_lt _ hn
    simp only [probe]
    rw [if_pos ⟨by omega, by omega⟩]
    have hw : wrap64 (key + 1) = key + 1 := by unfold wrap64; omega
    have hr : rd tb ((slot tb.length key s : Nat) : Int) = tb.getD (slot tb.length key s) 0 := by unfold rd; rw [Int.toNat_natCast]
    rw [hw, hr, if_neg hs]
    rfl
  | succ d ih =>
    intro s K hK hb hs
    obtain ⟨K, rfl⟩ : ∃ m, K = m + 1 := ⟨K - 1, by omega⟩
    have hlt : slot tb.length key s < tb.length := Nat.mod_lt _ hn
    have h0 := hb 0 (by omega)
    rw [Nat.add_zero] at h0
    have hw : wrap64 (key + 1) = key + 1 := by unfold wrap64; omega
    have hr : rd tb ((slot tb.length key s : Nat) : Int) = tb.getD (slot tb.length key s) 0 := by unfold rd; rw [Int.toNat_natCast]
    have hnext : Int.tmod (wrap64 (((slot tb.length key s : Nat) : Int) + 1)) (tb.length : Int) = ((slot tb.length key (s + 1) : Nat) : Int) := by
      rw [show wrap64 (((slot tb.length key s : Nat) : Int) + 1) = ((slot tb.length key s + 1 : Nat) : Int) by unfold wrap64; omega, Int.tmod_eq_emod_of_nonneg (by omega), ← Int.natCast_emod]
      congr 1
      unfold slot
      rw [Nat.mod_add_mod]
      rfl
    simp only [probe]
    rw [if_pos ⟨by omega, by omega⟩, hw, hr, if_pos h0, hnext, ih (s + 1) K (by omega) (fun e he => by have := hb (e + 1) (by omega); rwa [show s + (e + 1) = s + 1 + e by omega] at this) (by rwa [show s + (d + 1) = s + 1 + d by omega] at hs)]
    rw [show s + 1 + d = s + (d + 1) by omega]
/-- Some place behind is free or has the number, if one place is free. -/
theorem probe_ends (tb : List Int) (key : Int) (hn : 0 < tb.length) (q : Nat) (hq : q < tb.length) (h0 : ¬ 0 < tb.getD q 0) : ∃ d, d < tb.length ∧ (∀ e, e < d → 0 < tb.getD (slot tb.length key e) 0 ∧ tb.getD (slot tb.length key e) 0 ≠ key + 1) ∧ ¬ (0 < tb.getD (slot tb.length key d) 0 ∧ tb.getD (slot tb.length key d) 0 ≠ key + 1) := by
  have hex : ∃ d, d < tb.length ∧ ¬ (0 < tb.getD (slot tb.length key d) 0 ∧ tb.getD (slot tb.length key d) 0 ≠ key + 1) := by
    refine ⟨(q + tb.length - key.toNat % tb.length) % tb.length, Nat.mod_lt _ hn, fun h => h0 ?_⟩
    have hs : slot tb.length key ((q + tb.length - key.toNat % tb.length) % tb.length) = q := by
      unfold slot
      have hm : key.toNat % tb.length < tb.length := Nat.mod_lt _ hn
      rw [Nat.add_mod_mod, ← Nat.mod_add_mod, show key.toNat % tb.length + (q + tb.length - key.toNat % tb.length) = q + tb.length by omega, Nat.add_mod_right, Nat.mod_eq_of_lt hq]
    rw [hs] at h
    exact h.1
  obtain ⟨d, hd, hs⟩ := hex
  induction d using Nat.strongRecOn with
  | _ d ih =>
    by_cases hall : ∀ e, e < d → 0 < tb.getD (slot tb.length key e) 0 ∧ tb.getD (slot tb.length key e) 0 ≠ key + 1
    · exact ⟨d, hd, hall, hs⟩
    · obtain ⟨e, he⟩ := Classical.not_forall.1 hall
      have he' : e < d ∧ ¬ (0 < tb.getD (slot tb.length key e) 0 ∧ tb.getD (slot tb.length key e) 0 ≠ key + 1) := by
        by_cases h : e < d
        · exact ⟨h, fun z => he (fun _ => z)⟩
        · exact absurd (fun z => absurd z h) he
      exact ih e he'.1 (by omega) he'.2
theorem slot_inj {n : Nat} {k : Int} {a b : Nat} (ha : a < n) (hb : b < n) (h : slot n k a = slot n k b) : a = b := by
  unfold slot at h
  have h1 := Nat.div_add_mod (k.toNat + a) n
  have h2 := Nat.div_add_mod (k.toNat + b) n
  rw [h] at h1
  have h3 : n * ((k.toNat + a) / n) + (k.toNat + b) = n * ((k.toNat + b) / n) + (k.toNat + a) := by omega
  rcases Nat.lt_trichotomy ((k.toNat + a) / n) ((k.toNat + b) / n) with hq | hq | hq
  · have : n * ((k.toNat + a) / n) + n ≤ n * ((k.toNat + b) / n) := by rw [← Nat.mul_succ]; exact Nat.mul_le_mul_left n hq
    omega
  · rw [hq] at h3; omega
  · have : n * ((k.toNat + b) / n) + n ≤ n * ((k.toNat + a) / n) := by rw [← Nat.mul_succ]; exact Nat.mul_le_mul_left n hq
    omega
theorem getD_set (l : List Int) (p q : Nat) (v : Int) (hp : p < l.length) : (l.set p v).getD q 0 = if q = p then v else l.getD q 0 := by
  by_cases h : q = p
  · subst h
    rw [if_pos rfl]
    simp [hp]
  · rw [if_neg h]
    simp only [List.getD_eq_getElem?_getD]
    rw [List.getElem?_set_ne (fun e => h e.symm)]
/-- What putEnd does to a table in which a place is free. -/
theorem putEnd_good {tb : List Int} {c key : Int} {M : Int → Prop} (h : Good tb c M) (hk : 0 ≤ key) (hk2 : key < 4611686018427387904) (hn : 0 < tb.length) (hl : tb.length < 1099511627776) (hfree : c < tb.length) (K : Nat) (hK : tb.length ≤ K) :
    (M key ∧ putEnd K tb c key = some (false, tb, c)) ∨ (¬ M key ∧ ∃ tb', putEnd K tb c key = some (true, tb', c + 1) ∧ tb'.length = tb.length ∧ Good tb' (c + 1) (fun k => k = key ∨ M k)) := by
  have hex : ∃ q, q < tb.length ∧ ¬ 0 < tb.getD q 0 := by
    by_cases hz : ∃ q, q < tb.length ∧ ¬ 0 < tb.getD q 0
    · exact hz
    · have := filter_all (fun x => decide (0 < x)) tb (fun i hi => decide_eq_true (by
        by_cases hx : 0 < tb.getD i 0
        · exact hx
        · exact absurd ⟨i, hi, hx⟩ hz))
      have := h.count
      omega
  obtain ⟨q, hq, hq0⟩ := hex
  obtain ⟨d, hd, hb, hs⟩ := probe_ends tb key hn q hq hq0
  have hp := probe_finds tb key hk hk2 hn hl d 0 K (by omega) (fun e he => by rw [Nat.zero_add]; exact hb e he) (by rw [Nat.zero_add]; exact hs)
  rw [Nat.zero_add] at hp
  have hst : Int.tmod key (tb.length : Int) = ((slot tb.length key 0 : Nat) : Int) := by
    obtain ⟨m, rfl⟩ := Int.eq_ofNat_of_zero_le hk
    rw [Int.tmod_eq_emod_of_nonneg hk, ← Int.natCast_emod]
    unfold slot
    rw [Int.toNat_natCast, Nat.add_zero]
  obtain ⟨P, hP⟩ : ∃ P, slot tb.length key d = P := ⟨_, rfl⟩
  have hPlt : P < tb.length := by rw [← hP]; exact Nat.mod_lt _ hn
  rw [hP] at hp hs
  have hw : wrap64 (key + 1) = key + 1 := by unfold wrap64; omega
  have hcl : (tb.filter (fun x => decide (0 < x))).length ≤ tb.length := List.length_filter_le _ _
  have hc0 : 0 ≤ c := by rw [h.count]; omega
  have hwc : wrap64 (c + 1) = c + 1 := by unfold wrap64; omega
  have hrd : rd tb (P : Int) = tb.getD P 0 := by unfold rd; rw [Int.toNat_natCast]
  have hE : putEnd K tb c key = if 0 < tb.getD P 0 then some (false, tb, c) else some (true, tb.set P (key + 1), c + 1) := by
    unfold putEnd
    rw [if_neg (by omega), hst, hp, Option.bind_some, if_pos ⟨by omega, by omega⟩, hrd, hw, hwc, Int.toNat_natCast]
  by_cases ht : 0 < tb.getD P 0
  · have hm : tb.getD P 0 = key + 1 := by
      by_cases he : tb.getD P 0 = key + 1
      · exact he
      · exact absurd ⟨ht, he⟩ hs
    refine .inl ⟨?_, by rw [hE, if_pos ht]⟩
    have := h.sound P ht
    rw [hm] at this
    simpa using this
  · have h0 : tb.getD P 0 = 0 := by have := h.nn P; omega
    have hno : ¬ M key := by
      intro hM
      obtain ⟨_, d2, hd2, he2, hp2⟩ := h.path key hM
      rcases Nat.lt_trichotomy d d2 with hlt | heq | hgt
      · have := hp2 d hlt; rw [hP] at this; omega
      · subst heq; rw [hP] at he2; omega
      · exact (hb d2 hgt).2 he2
    refine .inr ⟨hno, _, by rw [hE, if_neg ht], by simp, ?_⟩
    refine ⟨fun p => ?_, fun p hp0 => ?_, fun k hM => ?_, ?_⟩
    · rw [getD_set _ _ _ _ hPlt]
      split
      · omega
      · exact h.nn p
    · rw [getD_set _ _ _ _ hPlt] at hp0 ⊢
      split at hp0
      · rename_i hpp; rw [if_pos hpp]; exact .inl (by omega)
      · rename_i hpp; rw [if_neg hpp]; exact .inr (h.sound p hp0)
    · simp only [List.length_set]
      rcases hM with rfl | hM
      · refine ⟨hk, d, hd, ?_, fun e he => ?_⟩
        · rw [hP, getD_set _ _ _ _ hPlt, if_pos rfl]
        · rw [getD_set _ _ _ _ hPlt]
          split
          · omega
          · exact (hb e he).1
      · obtain ⟨hk0, d2, hd2, he2, hp2⟩ := h.path k hM
        refine ⟨hk0, d2, hd2, ?_, fun e he => ?_⟩
        · rw [getD_set _ _ _ _ hPlt, if_neg (fun e => by rw [e] at he2; omega)]; exact he2
        · rw [getD_set _ _ _ _ hPlt]
          split
          · omega
          · exact hp2 e he
    · rw [filter_set (fun x => decide (0 < x)) tb P (key + 1) hPlt (decide_eq_false ht) (decide_eq_true (by omega)), h.count]
      omega
theorem Good.congr {tb : List Int} {c : Int} {M M' : Int → Prop} (h : Good tb c M) (hm : ∀ k, M k ↔ M' k) : Good tb c M' :=
  ⟨h.nn, fun p hp => (hm _).1 (h.sound p hp), fun k hk => h.path k ((hm k).2 hk), h.count⟩
theorem Good.empty (n : Nat) : Good (List.replicate n 0) 0 (fun _ => False) := by
  have h0 : ∀ p, (List.replicate n (0 : Int)).getD p 0 = 0 := fun p => by
    simp only [List.getD_eq_getElem?_getD, List.getElem?_replicate]
    split <;> rfl
  refine ⟨fun p => by rw [h0 p]; omega, fun p hp => by rw [h0 p] at hp; omega, fun k hk => hk.elim, ?_⟩
  simp
/-- All numbers of an old table are put into one that has room for them. -/
theorem putAll_good (K : Nat) : ∀ (xs tb : List Int) (c : Int) (M : Int → Prop), Good tb c M → (∀ x ∈ xs, x < 4611686018427387904) → tb.length < 1099511627776 → tb.length ≤ K → 2 * (c + xs.length) < tb.length →
    ∃ tb' c', putAll (putF (K + 1)) xs tb c = some (tb', c') ∧ tb'.length = tb.length ∧ c' ≤ c + ((xs.filter (fun x => decide (0 < x))).length : Int) ∧ Good tb' c' (fun k => M k ∨ ∃ x, x ∈ xs ∧ 0 < x ∧ k = x - 1)
  | [], tb, c, M, h, _, _, _, _ => ⟨tb, c, rfl, rfl, by simp, h.congr (fun k => by simp)⟩
  | x :: xs, tb, c, M, h, hx, hl, hK, hr => by
    have hc0 : 0 ≤ c := by rw [h.count]; omega
    have hr' : 2 * (c + xs.length + 1) < tb.length := by simp at hr; omega
    simp only [putAll]
    by_cases h0 : 0 < x
    · rw [if_pos h0]
      have hxl := hx x (List.mem_cons_self ..)
      have hw : wrap64 (x - 1) = x - 1 := by unfold wrap64; omega
      have hF : putF (K + 1) tb c (x - 1) = putEnd K tb c (x - 1) := by
        simp only [putF]
        rw [if_neg (by omega), if_neg (by unfold wrap64; omega)]
      rw [hw, hF]
      rcases putEnd_good h (show 0 ≤ x - 1 by omega) (by omega) (by omega) hl (by omega) K hK with ⟨hM, he⟩ | ⟨hM, tb1, he, hlen, hg⟩
      · rw [he, Option.bind_some]
        obtain ⟨tb', c', e1, e2, e3, e4⟩ := putAll_good K xs tb c M h (fun y hy => hx y (List.mem_cons_of_mem _ hy)) hl hK (by omega)
        refine ⟨tb', c', e1, e2, by rw [List.filter_cons_of_pos (by simpa using h0), List.length_cons]; omega, e4.congr (fun k => ?_)⟩
        constructor
        · rintro (z | ⟨y, hy, z⟩)
          · exact .inl z
          · exact .inr ⟨y, List.mem_cons_of_mem _ hy, z⟩
        · rintro (z | ⟨y, hy, z1, z2⟩)
          · exact .inl z
          · rcases List.mem_cons.1 hy with e | hy
            · subst e; rw [z2]; exact .inl hM
            · exact .inr ⟨y, hy, z1, z2⟩
      · rw [he, Option.bind_some]
        obtain ⟨tb', c', e1, e2, e3, e4⟩ := putAll_good K xs tb1 (c + 1) _ hg (fun y hy => hx y (List.mem_cons_of_mem _ hy)) (by omega) (by omega) (by rw [hlen]; omega)
        refine ⟨tb', c', e1, by omega, by rw [List.filter_cons_of_pos (by simpa using h0), List.length_cons]; omega, e4.congr (fun k => ?_)⟩
        constructor
        · rintro ((z | z) | ⟨y, hy, z⟩)
          · exact .inr ⟨x, List.mem_cons_self .., h0, z⟩
          · exact .inl z
          · exact .inr ⟨y, List.mem_cons_of_mem _ hy, z⟩
        · rintro (z | ⟨y, hy, z1, z2⟩)
          · exact .inl (.inr z)
          · rcases List.mem_cons.1 hy with e | hy
            · subst e; exact .inl (.inl z2)
            · exact .inr ⟨y, hy, z1, z2⟩
    · rw [if_neg h0]
      obtain ⟨tb', c', e1, e2, e3, e4⟩ := putAll_good K xs tb c M h (fun y hy => hx y (List.mem_cons_of_mem _ hy)) hl hK (by omega)
      refine ⟨tb', c', e1, e2, by rw [List.filter_cons_of_neg (by simpa using h0)]; exact e3, e4.congr (fun k => ?_)⟩
      constructor
      · rintro (z | ⟨y, hy, z⟩)
        · exact .inl z
        · exact .inr ⟨y, List.mem_cons_of_mem _ hy, z⟩
      · rintro (z | ⟨y, hy, z1, z2⟩)
        · exact .inl z
        · rcases List.mem_cons.1 hy with e | hy
          · subst e; exact absurd z1 h0
          · exact .inr ⟨y, hy, z1, z2⟩
theorem putEnd_good' {tb : List Int} {c key : Int} {M : Int → Prop} (h : Good tb c M) (hk : 0 ≤ key) (hk2 : key < 4611686018427387904) (hn : 0 < tb.length) (hl : tb.length < 1099511627776) (hfree : c < tb.length) (K : Nat) (hK : tb.length ≤ K) :
    ∃ tb' c' b, putEnd K tb c key = some (b, tb', c') ∧ (b = true ↔ ¬ M key) ∧ tb'.length = tb.length ∧ c' ≤ c + 1 ∧ (b = false → c' ≤ c) ∧ Good tb' c' (fun k => k = key ∨ M k) := by
  rcases putEnd_good h hk hk2 hn hl hfree K hK with ⟨hM, he⟩ | ⟨hM, tb1, he, hlen, hg⟩
  · exact ⟨tb, c, false, he, by simp [hM], rfl, by omega, fun _ => Int.le_refl _, h.congr (fun k => ⟨.inr, fun z => z.elim (fun e => e ▸ hM) id⟩)⟩
  · exact ⟨tb1, c + 1, true, he, by simp [hM], hlen, by omega, (fun e => by cases e), hg⟩
/-- put tells whether a number is new. -/
theorem putF_good {tb : List Int} {c key : Int} {M : Int → Prop} (h : Good tb c M) (hk : 0 ≤ key) (hk2 : key < 4611686018427387904) (hM : ∀ k, M k → k < 4611686018427387903) (hl : tb.length < 274877906944) (K : Nat) (hK : 2 * tb.length + 66 ≤ K) :
    ∃ tb' c' b, putF K tb c key = some (b, tb', c') ∧ (b = true ↔ ¬ M key) ∧ (tb'.length = tb.length ∨ (tb'.length : Int) ≤ 4 * c + 64) ∧ c' ≤ c + 1 ∧ (b = false → c' ≤ c) ∧ Good tb' c' (fun k => k = key ∨ M k) := by
  obtain ⟨K, rfl⟩ : ∃ m, K = m + 2 := ⟨K - 2, by omega⟩
  have hcl : (tb.filter (fun x => decide (0 < x))).length ≤ tb.length := List.length_filter_le _ _
  have hc0 : 0 ≤ c := by rw [h.count]; omega
  have hc1 : c ≤ tb.length := by rw [h.count]; omega
  have hS : putF (K + 2) tb c key = if 4398046511104 ≤ tb.length then none else if (tb.length : Int) ≤ wrap64 (2 * c) then (putAll (putF (K + 1)) tb (List.replicate (2 * tb.length + 64) 0) 0).bind fun t => putEnd (K + 1) t.1 t.2 key else putEnd (K + 1) tb c key := rfl
  rw [hS, if_neg (by omega)]
  by_cases hg : (tb.length : Int) ≤ wrap64 (2 * c)
  · rw [if_pos hg]
    have hent : ∀ x ∈ tb, x < 4611686018427387904 := by
      intro x hx
      obtain ⟨i, hi, e⟩ := List.getElem_of_mem hx
      by_cases h0 : 0 < x
      · have h1 : tb.getD i 0 = x := by simp [hi, e]
        have h2 := h.sound i (by rw [h1]; exact h0)
        rw [h1] at h2
        have := hM _ h2
        omega
      · omega
    obtain ⟨tb1, c1, e1, e2, e3, e4⟩ := putAll_good K tb (List.replicate (2 * tb.length + 64) 0) 0 (fun _ => False) (Good.empty _) hent (by simp; omega) (by simp; omega) (by simp; omega)
    rw [List.length_replicate] at e2
    have e5 : Good tb1 c1 M := e4.congr (fun k => by
      constructor
      · rintro (z | ⟨x, hx, z1, z2⟩)
        · exact z.elim
        · obtain ⟨i, hi, e⟩ := List.getElem_of_mem hx
          have h1 : tb.getD i 0 = x := by simp [hi, e]
          have h2 := h.sound i (by rw [h1]; exact z1)
          rw [h1, ← z2] at h2
          exact h2
      · intro z
        obtain ⟨hk0, d, hd, he, _⟩ := h.path k z
        have hlt : slot tb.length k d < tb.length := Nat.mod_lt _ (by omega)
        refine .inr ⟨k + 1, ?_, by omega, by omega⟩
        rw [← he]
        simp [hlt])
    rw [e1, Option.bind_some]
    have hc2 : c1 ≤ c := by rw [h.count]; omega
    have hg2 : (tb.length : Int) ≤ 2 * c := by unfold wrap64 at hg; omega
    obtain ⟨tb', c', b, f1, f2, f3, f5, f6, f4⟩ := putEnd_good' e5 hk hk2 (by omega) (by omega) (by omega) (K + 1) (by omega)
    exact ⟨tb', c', b, f1, f2, .inr (by omega), by omega, (fun e => by have := f6 e; omega), f4⟩
  · rw [if_neg hg]
    have hlt : 2 * c < tb.length := by unfold wrap64 at hg; omega
    obtain ⟨tb', c', b, f1, f2, f3, f5, f6, f4⟩ := putEnd_good' h hk hk2 (by omega) (by omega) (by omega) (K + 1) (by omega)
    exact ⟨tb', c', b, f1, f2, .inl f3, f5, f6, f4⟩
end Go.Proofs.Ytgmnbpdfdagniaa.A
