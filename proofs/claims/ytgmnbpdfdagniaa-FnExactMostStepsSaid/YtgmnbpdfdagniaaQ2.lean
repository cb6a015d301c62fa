/- The set of numbers in a table (the reference): what put does. No conditions. -/
import Derived.Test.YtgmnbpdfdagniaaZ25
namespace Go.Proofs.Ytgmnbpdfdagniaa.A
open Go.RowKit Go.Proofs.YtgmnbpdfdagniaaW.PrintWords Go.Proofs.YtgmnbpdfdagniaaW.PrintLast Go.Proofs.YtgmnbpdfdagniaaW.PrintMore
set_option linter.unusedVariables false
set_option linter.unusedSimpArgs false
theorem infoInt : (Try.prog.info? 2).map (fun i => (i.zero, i.size, i.bytes)) = some (some (.int .i64 0), 1, 8) := by kernel_rfl
/-- From a place on, the first one that is free or has the number. -/
def probe : Nat → List Int → Int → Int → Option Int
  | 0, _, _, _ => none
  | k + 1, tb, key, at_ => if 0 ≤ at_ ∧ at_ < tb.length then (if 0 < rd tb at_ ∧ ¬ rd tb at_ = wrap64 (key + 1) then probe k tb key (Int.tmod (wrap64 (at_ + 1)) tb.length) else some at_) else none
def putAll (rec : List Int → Int → Int → Option (Bool × List Int × Int)) : List Int → List Int → Int → Option (List Int × Int)
  | [], tb, c => some (tb, c)
  | x :: xs, tb, c => if 0 < x then (rec tb c (wrap64 (x - 1))).bind fun r => putAll rec xs r.2.1 r.2.2 else putAll rec xs tb c
def putEnd (k : Nat) (tb : List Int) (c key : Int) : Option (Bool × List Int × Int) :=
  if (tb.length : Int) = 0 then none else
  (probe k tb key (Int.tmod key tb.length)).bind fun p =>
  if 0 ≤ p ∧ p < tb.length then (if 0 < rd tb p then some (false, tb, c) else some (true, tb.set p.toNat (wrap64 (key + 1)), wrap64 (c + 1))) else none
/-- A number is put into a table. -/
def putF : Nat → List Int → Int → Int → Option (Bool × List Int × Int)
  | 0, _, _, _ => none
  | k + 1, tb, c, key =>
    if 4398046511104 ≤ tb.length then none else
    if (tb.length : Int) ≤ wrap64 (2 * c) then (putAll (putF k) tb (List.replicate (2 * tb.length + 64) 0) 0).bind fun t => putEnd k t.1 t.2 key
    else putEnd k tb c key
def boxS (v : Value) (c : Int) : Obj := .cells #[v, .int .i64 c] 63 (0, 0)
theorem s_cells {w : World} {g : Nat} {v : Value} {c : Int} (h : w.heap[g]? = some (boxS v c)) : w.cell? ⟨g, 0, none⟩ = some v ∧ w.cell? ⟨g, 1, none⟩ = some (.int .i64 c) := ⟨(blk_cell h 0).trans rfl, (blk_cell h 1).trans rfl⟩
abbrev RI (w : World) (B : Nat) (v : Value) (tb : List Int) : Prop := (Kd.int .i64).R 2 w B (fun _ => True) v tb
/-- A table of which something else has changed. -/
theorem RI.keep {w w' : World} {B : Nat} {v : Value} {tb : List Int} {S : Nat → Prop} (h : RI w B v tb) (k : KS S w w') (hS : ∀ i, v.ownBlock = some i → ¬ S i) : RI w' B v tb :=
  Kd.R_mono (Kd.R_step (Kd.R_tight rfl h) (fun i hi hlt => k.block i hlt (hS i hi.symm))) (fun _ _ => trivial)
theorem RI.box_ne {w : World} {B gs : Nat} {v u : Value} {c : Int} {tb : List Int} (h : RI w B v tb) (hb : w.heap[gs]? = some (boxS u c)) : ∀ i, v.ownBlock = some i → i ≠ gs := by
  intro i hi e
  subst e
  exact Kd.R_ne h hb (by decide) hi.symm
theorem RI.lower {w : World} {B B' : Nat} {v : Value} {tb : List Int} (h : RI w B v tb) (hb : B' ≤ B) : RI w B' v tb := Kd.R_lower h hb
theorem KS.widen {S S' : Nat → Prop} {w w' : World} (h : KS S w w') (hs : ∀ i, S i → S' i) : KS S' w w' := ⟨h.os, h.tape, h.output, h.size, fun i hi hn => h.block i hi (fun z => hn (hs i z))⟩
theorem putEnd_len {k : Nat} {tb : List Int} {c key : Int} {r : Bool} {tb' : List Int} {c' : Int} (h : putEnd k tb c key = some (r, tb', c')) : tb'.length = tb.length := by
  unfold putEnd at h
  split at h
  · cases h
  · obtain ⟨p, _, h⟩ := Option.bind_eq_some_iff.1 h
    split at h
    · split at h
      · cases h; rfl
      · cases h; simp
    · cases h
theorem putAll_len {rec : List Int → Int → Int → Option (Bool × List Int × Int)} (hrec : ∀ tb c key r tb' c', rec tb c key = some (r, tb', c') → tb'.length ≤ 8796093022272) : ∀ (xs tb : List Int) (c : Int) {t : List Int} {c' : Int}, putAll rec xs tb c = some (t, c') → tb.length ≤ 8796093022272 → t.length ≤ 8796093022272
  | [], tb, c, t, c', h, hl => by simp only [putAll] at h; cases h; exact hl
  | x :: xs, tb, c, t, c', h, hl => by
    simp only [putAll] at h
    split at h
    · obtain ⟨⟨r, t1, c1⟩, h1, h⟩ := Option.bind_eq_some_iff.1 h
      exact putAll_len hrec xs t1 c1 h (hrec _ _ _ _ _ _ h1)
    · exact putAll_len hrec xs tb c h hl
theorem putF_len : ∀ (k : Nat) {tb : List Int} {c key : Int} {r : Bool} {tb' : List Int} {c' : Int}, putF k tb c key = some (r, tb', c') → tb'.length ≤ 8796093022272
  | 0, tb, c, key, r, tb', c', h => by simp [putF] at h
  | k + 1, tb, c, key, r, tb', c', h => by
    simp only [putF] at h
    split at h
    · cases h
    · split at h
      · obtain ⟨⟨t1, c1⟩, h1, h⟩ := Option.bind_eq_some_iff.1 h
        rw [putEnd_len h]
        exact putAll_len (fun _ _ _ _ _ _ h => putF_len k h) tb _ _ h1 (by rw [List.length_replicate]; omega)
      · rw [putEnd_len h]; omega
/-- What put leaves. -/
def PutPost (w : World) (gs B : Nat) (v : Value) (r : Bool) (tb : List Int) (c : Int) (e : Ending) (w' : World) : Prop :=
  e = .returned (.bool r) ∧ ∃ v', w'.heap[gs]? = some (boxS v' c) ∧ RI w' B v' tb ∧ KS (fun i => i = gs ∨ v.ownBlock = some i) w w'
set_option maxHeartbeats 6400000 in
set_option maxRecDepth 100000 in
theorem putF.calls : ∀ (k gs : Nat) (tb : List Int) (c key : Int) (r : Bool) (tb' : List Int) (c' : Int) (w : World) (B : Nat) (v : Value), B ≤ w.heap.size → w.heap[gs]? = some (boxS v c) → RI w B v tb → putF k tb c key = some (r, tb', c') →
    Calls Try.prog 38 #[.pointer (some ⟨gs, 0, none⟩), .int .i64 key] w (PutPost w gs B v r tb' c') := by
  intro k
  induction k with
  | zero => intro gs tb c key r tb' c' w B v _ _ _ h; simp [putF] at h
  | succ k ih =>
    intro gs tb c key r tb' c' w B v hB hb hR h
    simp only [putF] at h
    by_cases c0 : 4398046511104 ≤ tb.length
    · rw [if_pos c0] at h; cases h
    rw [if_neg c0] at h
    by_cases c1 : (tb.length : Int) ≤ wrap64 (2 * c)
    · rw [if_pos c1] at h
      have c1b := decide_eq_true c1
      replace h := Option.bind_eq_some_iff.1 h
      obtain ⟨⟨tb1, cc1⟩, ht, h⟩ := h
      dsimp only at h
      obtain ⟨A, cp0, rfl, hcp, hC⟩ := Kd.R_reads hR
      obtain ⟨z0, z1⟩ := s_cells hb
      have hs0 := blk_frozen hb 0
      have hs1 := blk_frozen hb 1
      have HBX := Aside0.mk hb
      have HR := Aside0.mk hR
      have HT := Aside0.mk ht
      have HT0 := Aside0.mk (putAll_len (fun _ _ _ _ _ _ h => putF_len k h) tb _ _ ht (by rw [List.length_replicate]; omega))
      have H0 := Aside0.mk h
      have c0' : tb.length < 4398046511104 := by omega
      have HOLD := Aside0.mk (fun i hi => (⟨Kd.R_lt hR i hi, RI.box_ne hR hb i hi⟩ : i < w.heap.size ∧ i ≠ gs))
      clear hb hR ht h c1 hcp hC
      obtain ⟨N, hN⟩ : ∃ N : Nat, 2 * tb.length + 64 = N := ⟨_, rfl⟩
      have HNT := Aside0.mk (show (2 * (tb.length : Int) + 64).toNat = N by omega)
      have hN0 : 0 < N := by omega
      go_enter Try.func38, Try.ntmps38
      go_wp2
      go_quiet (fail)
      go_wp2_with (first
        | ((with_reducible refine gate_dst (N := 28) rfl ?_); refine Kd.R_make (Kd.int .i64) _ 2 rfl (N := 28) rfl 61 _ _ rfl _ rfl rfl Try.underlying61 (.int .i64 0) 8 infoInt rfl (by decide) (by omega) 0 (ok := fun _ => True) (okp := fun _ => True) rfl (fun _ hk => hk) trivial ?h0 ?hl (Below.refl _ _) (Nat.le_refl _) ?_; (case h0 => omega); (case hl => rw [HNT.out, ← hN]; omega); intro v1 w1 hR1 hb1 hg1 hnew1; clear hg1 hnew1; rw [HNT.out] at hR1; obtain ⟨g1, cp1, e1, -, -, -⟩ := Kd.R_form hR1 (by rw [List.length_replicate]; exact hN0); rw [List.length_replicate] at e1; subst e1; have HR1 := Aside0.mk (show RI w1 w.heap.size _ (List.replicate N 0) from hR1); have BX1 := Aside0.mk (blk_below (blk_drewN HBX.out nq) hb1); have KS1 := Aside0.mk (KS.below (KS.drewN (KS.refl (fun i => i = gs) w) nq) hb1); have OLD1 := Aside0.mk (show RI w1 B (.slice A tb.length cp0) tb from Kd.R_below (Kd.R_drewN HR.out nq) hb1); have y0 := blk_frozen BX1.out 0; have y1 := blk_frozen BX1.out 1; obtain ⟨z0, z1⟩ := s_cells BX1.out; clear hb1 hR1))
      go_loopw [6] (fun v6 wr => ∃ (i : Nat) (t2 : List Int) (c2 : Int) (v2 : Value), i ≤ tb.length ∧ v6 = .int .i64 (i : Int) ∧ Aside0 (putAll (putF k) (tb.drop i) t2 c2 = some (tb1, cc1)) ∧ Aside0 (wr.heap[gs]? = some (boxS v2 c2)) ∧ Aside0 (RI wr w.heap.size v2 t2) ∧ Aside0 (RI wr B (.slice A tb.length cp0) tb) ∧ Aside0 (KS (fun i => i = gs) w wr)) (fun v6 _ => tb.length - (intOf v6).toNat)
      case atStart =>
        have hne : ∀ i, (Value.slice (some ⟨g1, 0, none⟩) N cp1).ownBlock = some i → i ≠ gs := RI.box_ne HR1.out BX1.out
        refine ⟨0, _, 0, _, Nat.zero_le _, rfl, ⟨by rw [hN] at HT; exact HT.out⟩, ⟨blk_put (blk_put BX1.out 0 _ rfl) 1 _ rfl⟩, ⟨RI.keep HR1.out (KS.set (KS.set (KS.refl (fun i => i = gs) _) gs 0 _ (fun _ => rfl)) gs 1 _ (fun _ => rfl)) hne⟩, ⟨RI.keep OLD1.out (KS.set (KS.set (KS.refl (fun i => i = gs) _) gs 0 _ (fun _ => rfl)) gs 1 _ (fun _ => rfl)) (fun i hi => (HOLD.out i hi).2)⟩, ⟨KS.set (KS.set KS1.out gs 0 _ (fun _ => rfl)) gs 1 _ (fun _ => rfl)⟩⟩
      case round =>
        obtain ⟨i, t2, c2, v2, hi, rfl, HT, HBX2, HR2, HOR, HK⟩ := hrel
        by_cases hlt : i < tb.length
        · have hcd : decide ((i : Int) < (tb.length : Int)) = true := decide_eq_true (by omega)
          obtain ⟨-, -, hC⟩ := Kd.R_reads' HOR.out
          obtain ⟨ad, rfl, hx0⟩ := Kd.at_int hC (i : Int) (by omega) (by omega)
          obtain ⟨x, hx⟩ : ∃ x, rd tb (i : Int) = x := ⟨_, rfl⟩
          rw [Int.toNat_natCast, hx] at hx0
          have hd : tb.drop i = x :: tb.drop (i + 1) := by
            rw [List.drop_eq_getElem_cons hlt, ← hx]; simp [rd, hlt]
          have hT := HT.out
          rw [hd] at hT
          simp only [putAll] at hT
          have i0 : (0 : Int) ≤ (i : Int) := by omega
          have i1 : (i : Int) < (tb.length : Int) := by omega
          by_cases d0 : 0 < x
          · rw [if_pos d0] at hT
            have d0b := decide_eq_true d0
            replace hT := Option.bind_eq_some_iff.1 hT
            obtain ⟨⟨r1, t3, c3⟩, hr1, hT⟩ := hT
            have HP1 := Aside0.mk hr1
            have HT := Aside0.mk hT
            clear hT hr1 d0 hC hx hd
            go_wp2_with (first
              | (go_at_call 38; (with_reducible refine (ih gs t2 c2 (wrap64 (x - 1)) r1 t3 c3 _ w.heap.size v2 ?hB ?hb ?hR HP1.out).mono ?_); (case hB => exact HK.out.size); (case hb => exact HBX2.out); (case hR => exact HR2.out); rintro e w3 ⟨rfl, v3, hb3, hR3, hK3⟩; have BX3 := Aside0.mk hb3; have R3 := Aside0.mk hR3; have K3 := Aside0.mk hK3; clear hb3 hR3 hK3))
            refine ⟨⟨i + 1, t3, c3, v3, by omega, by go_num, HT, BX3, R3, ?_, ?_⟩, by simp [intOf]; omega⟩
            · exact ⟨RI.keep HOR.out K3.out (fun q hq z => by
                have h1 := HOLD.out q hq
                rcases z with z | z
                · exact h1.2 z
                · have := Kd.R_base HR2.out q z; omega)⟩
            · exact ⟨KS.then HK.out K3.out (fun q hq z => z.elim id (fun z => by have := Kd.R_base HR2.out q z; omega))⟩
          · rw [if_neg d0] at hT
            have d0b := decide_eq_false d0
            have HT := Aside0.mk hT
            clear hT d0 hC hx hd
            go_wp2
            exact ⟨⟨i + 1, t2, c2, v2, by omega, by go_num, HT, HBX2, HR2, HOR, HK⟩, by simp [intOf]; omega⟩
        · have hcd : decide ((i : Int) < (tb.length : Int)) = false := decide_eq_false (by omega)
          obtain rfl : i = tb.length := by omega
          have hT := HT.out
          rw [List.drop_length] at hT
          simp only [putAll] at hT
          injection hT with hT
          injection hT with e1 e2
          subst e1
          subst e2
          have h := H0.out
          unfold putEnd at h
          by_cases d2 : (t2.length : Int) = 0
          · rw [if_pos d2] at h; cases h
          rw [if_neg d2] at h
          have d2b : ((t2.length : Int) == 0) = false := beq_eq_false_iff_ne.2 d2
          replace h := Option.bind_eq_some_iff.1 h
          obtain ⟨p, hp, h⟩ := h
          obtain ⟨g1', cp', e1, -, -, -⟩ := Kd.R_form HR2.out (show 0 < t2.length by omega)
          subst e1
          have HP := Aside0.mk hp
          have H := Aside0.mk h
          have hnew := Kd.R_base HR2.out g1' rfl
          have hlen2 := HT0.out
          obtain ⟨z0, z1⟩ := s_cells HBX2.out
          clear hp h
          go_wp2
          go_loopg [7] k (fun kq v7 wr => ∃ at_ : Int, v7 = .int .i64 at_ ∧ Aside0 (probe kq t2 key at_ = some p) ∧ Aside0 (kq ≤ k) ∧ Aside0 (wr.heap[gs]? = some (boxS (.slice (some ⟨g1', 0, none⟩) t2.length cp') c2)) ∧ Aside0 (RI wr B (.slice (some ⟨g1', 0, none⟩) t2.length cp') t2) ∧ Aside0 (KS (fun i => i = gs ∨ (Value.slice A tb.length cp0).ownBlock = some i) w wr))
          case atStart => exact ⟨_, rfl, HP, ⟨Nat.le_refl _⟩, ⟨HBX2.out⟩, ⟨RI.lower HR2.out hB⟩, ⟨KS.widen HK.out (fun i h => .inl h)⟩⟩
          case round =>
            obtain ⟨at_, rfl, HA, HK1, HBX, HR, HK⟩ := hrel
            cases gk with
            | zero => exact absurd HA.out (by simp [probe])
            | succ k1 =>
              have hA := HA.out
              clear HA
              simp only [probe] at hA
              by_cases d0 : 0 ≤ at_ ∧ at_ < t2.length
              · rw [if_pos d0] at hA
                obtain ⟨i0, i1⟩ := d0
                obtain ⟨z0, z1⟩ := s_cells HBX.out
                obtain ⟨y0, y1⟩ := Kd.R_celln 0 HR.out at_ i0 i1
                change wr.cell? _ = some (.int .i64 (rd t2 at_)) at y0
                by_cases d1 : 0 < rd t2 at_
                · have d1b := decide_eq_true d1
                  by_cases d2 : rd t2 at_ = wrap64 (key + 1)
                  · rw [if_neg (fun z => z.2 d2)] at hA
                    obtain rfl := Option.some.inj hA
                    have d2b : (rd t2 at_ != wrap64 (key + 1)) = false := by rw [d2]; simp
                    have h := H.out
                    rw [if_pos ⟨i0, i1⟩, if_pos d1] at h
                    cases h
                    clear hA d2 d1
                    go_wp2
                    go_ret
                    exact ⟨rfl, _, HBX.out, HR.out, HK.out⟩
                  · rw [if_pos ⟨d1, d2⟩] at hA
                    have d2b : (rd t2 at_ != wrap64 (key + 1)) = true := by simpa using d2
                    rw [show Int.tmod (wrap64 (at_ + 1)) (t2.length : Int) = (at_ + 1) % (t2.length : Int) by rw [show wrap64 (at_ + 1) = at_ + 1 by unfold wrap64; omega, Int.tmod_eq_emod_of_nonneg (by omega)]] at hA
                    have HA := Aside0.mk hA
                    clear hA d2 d1
                    go_wp2
                    go_roundg k1
                    case measure => have := HK1.out; omega
                    case rel => exact ⟨_, rfl, HA, ⟨by have := HK1.out; omega⟩, HBX, HR, HK⟩
                · rw [if_neg (fun z => d1 z.1)] at hA
                  obtain rfl := Option.some.inj hA
                  have d1b := decide_eq_false d1
                  have h := H.out
                  rw [if_pos ⟨i0, i1⟩, if_neg d1] at h
                  cases h
                  have s1 := blk_frozen HBX.out 1
                  clear hA d1
                  have hne := RI.box_ne HR.out HBX.out g1' rfl
                  have hne' := Ne.symm hne
                  go_wp2
                  go_ret
                  refine ⟨rfl, _, blk_put (blk_far HBX.out (Ne.symm hne) _) 1 _ rfl, ?_, ?_⟩
                  · exact RI.keep (Kd.R_putn HR.out at_ (wrap64 (key + 1))) (KS.set (KS.refl (fun i => i = gs) _) gs 1 _ (fun _ => rfl)) (fun i hi e => hne (by rw [← e]; exact (Option.some.inj hi)))
                  · exact KS.set (KS.set HK.out g1' _ _ (fun hlt => by omega)) gs 1 _ (fun _ => .inl rfl)
              · rw [if_neg d0] at hA; cases hA
    · rw [if_neg c1] at h
      have c1b := decide_eq_false c1
      unfold putEnd at h
      by_cases c2 : (tb.length : Int) = 0
      · rw [if_pos c2] at h; cases h
      rw [if_neg c2] at h
      have c2b : ((tb.length : Int) == 0) = false := beq_eq_false_iff_ne.2 c2
      replace h := Option.bind_eq_some_iff.1 h
      obtain ⟨p, hp, h⟩ := h
      obtain ⟨g1, cp, rfl, -, -, -⟩ := Kd.R_form hR (show 0 < tb.length by omega)
      obtain ⟨z0, z1⟩ := s_cells hb
      have HBX := Aside0.mk hb
      have HR := Aside0.mk hR
      have HP := Aside0.mk hp
      have H := Aside0.mk h
      clear hb hR hp h c1
      go_enter Try.func38, Try.ntmps38
      go_wp2
      go_quiet (fail)
      go_wp2
      have K0 := Aside0.mk (KS.refl (fun i => i = gs ∨ (Value.slice (some ⟨g1, 0, none⟩) tb.length cp).ownBlock = some i) w)
      go_loopg [7] k (fun kq v7 wr => ∃ at_ : Int, v7 = .int .i64 at_ ∧ Aside0 (probe kq tb key at_ = some p) ∧ Aside0 (kq ≤ k) ∧ Aside0 (wr.heap[gs]? = some (boxS (.slice (some ⟨g1, 0, none⟩) tb.length cp) c)) ∧ Aside0 (RI wr B (.slice (some ⟨g1, 0, none⟩) tb.length cp) tb) ∧ Aside0 (KS (fun i => i = gs ∨ (Value.slice (some ⟨g1, 0, none⟩) tb.length cp).ownBlock = some i) w wr))
      case atStart => exact ⟨_, rfl, HP, ⟨Nat.le_refl _⟩, ⟨HBX.out⟩, ⟨Kd.R_drewN HR.out _⟩, ⟨KS.drewN K0.out _⟩⟩
      case round =>
        obtain ⟨at_, rfl, HA, HK1, HBX, HR, HK⟩ := hrel
        cases gk with
        | zero => exact absurd HA.out (by simp [probe])
        | succ k1 =>
          have hA := HA.out
          clear HA
          simp only [probe] at hA
          by_cases d0 : 0 ≤ at_ ∧ at_ < tb.length
          · rw [if_pos d0] at hA
            obtain ⟨i0, i1⟩ := d0
            obtain ⟨z0, z1⟩ := s_cells HBX.out
            obtain ⟨y0, y1⟩ := Kd.R_celln 0 HR.out at_ i0 i1
            change wr.cell? _ = some (.int .i64 (rd tb at_)) at y0
            by_cases d1 : 0 < rd tb at_
            · have d1b := decide_eq_true d1
              by_cases d2 : rd tb at_ = wrap64 (key + 1)
              · rw [if_neg (fun z => z.2 d2)] at hA
                obtain rfl := Option.some.inj hA
                have d2b : (rd tb at_ != wrap64 (key + 1)) = false := by rw [d2]; simp
                have h := H.out
                rw [if_pos ⟨i0, i1⟩, if_pos d1] at h
                cases h
                clear hA d2 d1
                go_wp2
                go_ret
                exact ⟨rfl, _, HBX.out, HR.out, HK.out⟩
              · rw [if_pos ⟨d1, d2⟩] at hA
                have d2b : (rd tb at_ != wrap64 (key + 1)) = true := by simpa using d2
                rw [show Int.tmod (wrap64 (at_ + 1)) (tb.length : Int) = (at_ + 1) % (tb.length : Int) by rw [show wrap64 (at_ + 1) = at_ + 1 by unfold wrap64; omega, Int.tmod_eq_emod_of_nonneg (by omega)]] at hA
                have HA := Aside0.mk hA
                clear hA d2 d1
                go_wp2
                go_roundg k1
                case measure => have := HK1.out; omega
                case rel => exact ⟨_, rfl, HA, ⟨by have := HK1.out; omega⟩, HBX, HR, HK⟩
            · rw [if_neg (fun z => d1 z.1)] at hA
              obtain rfl := Option.some.inj hA
              have d1b := decide_eq_false d1
              have h := H.out
              rw [if_pos ⟨i0, i1⟩, if_neg d1] at h
              cases h
              have s1 := blk_frozen HBX.out 1
              clear hA d1
              have hne := RI.box_ne HR.out HBX.out g1 rfl
              have hne' := Ne.symm hne
              go_wp2
              go_ret
              refine ⟨rfl, _, blk_put (blk_far HBX.out (Ne.symm hne) _) 1 _ rfl, ?_, ?_⟩
              · exact RI.keep (Kd.R_putn HR.out at_ (wrap64 (key + 1))) (KS.set (KS.refl (fun i => i = gs) _) gs 1 _ (fun _ => rfl)) (fun i hi e => hne (by rw [← e]; exact (Option.some.inj hi)))
              · exact KS.set (KS.set HK.out g1 _ _ (fun hlt => .inr rfl)) gs 1 _ (fun _ => .inl rfl)
          · rw [if_neg d0] at hA; cases hA
end Go.Proofs.Ytgmnbpdfdagniaa.A
