-- Printed by this session's oprint.py through the kit's printer.
import Derived.Test.YtjpjlobpglmoiaaDoorA0
import Derived.Test.YtjpjlobpglmoiaaDoorA48
import Derived.Test.YtjpjlobpglmoiaaDoorA49
namespace Go.Proofs.YtjpjlobpglmoiaaDoor.A
open Go.RowKit Go.Proofs.YtjpjlobpglmoiaaDoorW.PrintWords Go.Proofs.YtjpjlobpglmoiaaDoorW.PrintLast Go.Proofs.YtjpjlobpglmoiaaDoorW.PrintMore
attribute [local go_sem] max2_int min2_int max_two min_two max_three min_three max_four min_four   -- for this text's walks alone
set_option linter.unusedVariables false
set_option linter.unusedSimpArgs false

/-! ### spec_ValidScope: function 10 -/
-- given: proved by hand (validscope.tpl)
def nameB (s : ByteArray) : Bool := s.data.toList.all (fun b => decide (97 ≤ b.toNat ∧ b.toNat ≤ 122)) && decide (1 ≤ s.size ∧ s.size ≤ 10)
def waveB (s : ByteArray) : Bool := s.data.toList.all (fun b => decide (b.toNat = 48 ∨ b.toNat = 49)) && decide (s.size ≤ 400)
theorem bt_get (s : ByteArray) (i : Nat) (h : i < s.size) : bt s (i : Int) = ((s.data.toList[i]'(by simpa using h)).toNat : Int) := by
  unfold bt
  rw [Int.toNat_natCast, dif_pos h]
  rfl
theorem name_loop (s : ByteArray) (hs : s.size ≤ 9223372036854775807) : ∀ (d i : Nat), i + d = s.size → ∀ K, spec_IsName.l0 (K + d + 1) s (i : Int) = some ((s.data.toList.drop i).all (fun b => decide (97 ≤ b.toNat ∧ b.toNat ≤ 122)) && decide (1 ≤ s.size ∧ s.size ≤ 10))
  | 0, i, hi, K => by
    have hl : s.data.toList.length = s.size := by simp
    simp only [spec_IsName.l0]
    rw [if_neg (by omega), List.drop_of_length_le (by omega)]
    simp only [List.all_nil, Bool.true_and]
    by_cases c : 1 ≤ s.size
    · rw [if_pos (by omega)]
      congr 1
      rw [decide_eq_decide]
      omega
    · rw [if_neg (by omega), decide_eq_false (fun z => c z.1)]
  | d + 1, i, hi, K => by
    have hl : s.data.toList.length = s.size := by simp
    have ih := name_loop s hs d (i + 1) (by omega) K
    show spec_IsName.l0 (K + d + 1 + 1) s (i : Int) = _
    obtain ⟨M, hM⟩ : ∃ M, K + d + 1 = M := ⟨_, rfl⟩
    rw [hM] at ih ⊢
    simp only [spec_IsName.l0]
    rw [if_pos (by omega), if_pos (by omega), bt_get s i (by omega), List.drop_eq_getElem_cons (by omega), List.all_cons]
    have hb := (s.data.toList[i]'(by omega)).toNat_lt
    obtain ⟨x, hx⟩ : ∃ x, (s.data.toList[i]'(by omega)) = x := ⟨_, rfl⟩
    rw [hx]
    by_cases c : (x.toNat : Int) < 97
    · rw [if_pos c, decide_eq_false (p := 97 ≤ x.toNat ∧ x.toNat ≤ 122) (fun z => by omega)]; rfl
    · rw [if_neg c]
      by_cases c2 : (x.toNat : Int) > 122
      · rw [if_pos c2, decide_eq_false (p := 97 ≤ x.toNat ∧ x.toNat ≤ 122) (fun z => by omega)]; rfl
      · rw [if_neg c2, decide_eq_true (p := 97 ≤ x.toNat ∧ x.toNat ≤ 122) (by omega), Bool.true_and, show wrap64 ((i : Int) + 1) = ((i + 1 : Nat) : Int) by unfold wrap64; omega, ih]
theorem name_is (s : ByteArray) (hs : s.size ≤ 9223372036854775807) : ∃ k, spec_IsName.f k s = some (nameB s) := ⟨_, name_loop s hs s.size 0 (by omega) 0⟩
theorem wave_loop (s : ByteArray) (hs : s.size ≤ 9223372036854775807) : ∀ (d i : Nat), i + d = s.size → ∀ K, spec_l01Wave.l0 (K + d + 1) s (i : Int) = some ((s.data.toList.drop i).all (fun b => decide (b.toNat = 48 ∨ b.toNat = 49)) && decide (s.size ≤ 400))
  | 0, i, hi, K => by
    have hl : s.data.toList.length = s.size := by simp
    simp only [spec_l01Wave.l0]
    rw [if_neg (by omega), List.drop_of_length_le (by omega)]
    simp only [List.all_nil, Bool.true_and]
    congr 1
    rw [decide_eq_decide]
    omega
  | d + 1, i, hi, K => by
    have hl : s.data.toList.length = s.size := by simp
    have ih := wave_loop s hs d (i + 1) (by omega) K
    show spec_l01Wave.l0 (K + d + 1 + 1) s (i : Int) = _
    obtain ⟨M, hM⟩ : ∃ M, K + d + 1 = M := ⟨_, rfl⟩
    rw [hM] at ih ⊢
    simp only [spec_l01Wave.l0]
    rw [if_pos (by omega), if_pos (by omega), bt_get s i (by omega), List.drop_eq_getElem_cons (by omega), List.all_cons]
    obtain ⟨x, hx⟩ : ∃ x, (s.data.toList[i]'(by omega)) = x := ⟨_, rfl⟩
    rw [hx]
    by_cases c : (x.toNat : Int) = 48
    · rw [if_pos c, decide_eq_true (p := x.toNat = 48 ∨ x.toNat = 49) (by omega), Bool.true_and, show wrap64 ((i : Int) + 1) = ((i + 1 : Nat) : Int) by unfold wrap64; omega, ih]
    · rw [if_neg c]
      by_cases c2 : (x.toNat : Int) = 49
      · rw [if_pos c2, decide_eq_true (p := x.toNat = 48 ∨ x.toNat = 49) (by omega), Bool.true_and, show wrap64 ((i : Int) + 1) = ((i + 1 : Nat) : Int) by unfold wrap64; omega, ih]
      · rw [if_neg c2, decide_eq_false (p := x.toNat = 48 ∨ x.toNat = 49) (fun z => by omega)]; rfl
theorem wave_is (s : ByteArray) (hs : s.size ≤ 9223372036854775807) : ∃ k, spec_l01Wave.f k s = some (waveB s) := ⟨_, wave_loop s hs s.size 0 (by omega) 0⟩
/-- The names and waves at an index are as they must be. -/
def atB (l0 l1 : List ByteArray) (i : Nat) : Bool := nameB (l0.getD i ByteArray.empty) && (decide (i = 0) || Op.bytesLess (l0.getD (i - 1) ByteArray.empty).toList (l0.getD i ByteArray.empty).toList) && waveB (l1.getD i ByteArray.empty)
def scopeB (l0 l1 : List ByteArray) : Bool := decide (l0.length ≤ 6 ∧ l1.length = l0.length) && (List.range l0.length).all (atB l0 l1)
def spec_ValidScope.f (l0_0 l0_1 : List ByteArray) : Option Bool := if (∀ s ∈ l0_0, s.size ≤ 9223372036854775807) ∧ (∀ s ∈ l0_1, s.size ≤ 9223372036854775807) then some (scopeB l0_0 l0_1) else none
theorem range_bad {n k : Nat} {p : Nat → Bool} (h : k < n) (hp : p k = false) : (List.range n).all p = false := by
  rw [List.all_eq_false]
  exact ⟨k, List.mem_range.2 h, by simp [hp]⟩
theorem range_next {k : Nat} {p : Nat → Bool} (h : (List.range k).all p = true) (hp : p k = true) : (List.range (k + 1)).all p = true := by
  rw [List.range_succ, List.all_append, h]; simp [hp]
theorem drawn_more {w wr : World} (h : Drawn0 w wr) {m : Nat} : Drawn0 w (wr.drewN m) := h.step m
theorem below_drawn {w w1 w2 : World} (h : Below w.heap.size w w1) (k : Drawn0 w1 w2) : Below w.heap.size w w2 := by obtain ⟨m, rfl⟩ := k; exact pw_below_drewN h m
theorem drawn_quiet {w w' : World} (h : Drawn0 w w') : ∃ m, w' = w.drewN m := by obtain ⟨m, rfl⟩ := h; exact ⟨m, rfl⟩
set_option maxHeartbeats 3200000 in
set_option maxRecDepth 100000 in
theorem spec_ValidScope.is_ (g : Nat) (A0 A1 : Option Addr) (c0 c1 : Nat) (l0 l1 : List ByteArray) (w : World) (hb : w.heap[g]? = some (.cells #[.slice A0 l0.length c0, .slice A1 l1.length c1] 27 (0, 0))) (hr0 : Kd.C Kd.string w A0 l0.length l0) (hr1 : Kd.C Kd.string w A1 l1.length l1) (hs0 : ∀ s ∈ l0, s.size ≤ 9223372036854775807) (hs1 : ∀ s ∈ l1, s.size ≤ 9223372036854775807) :
    Calls Tryd.prog 29 #[.pointer (some ⟨g, 0, none⟩)] w fun e w' => e = .returned (.bool (scopeB l0 l1)) ∧ Drawn0 w w' := by
  have z0 : w.cell? ⟨g, 0, none⟩ = some (.slice A0 l0.length c0) := (blk_cell hb 0).trans rfl
  have z1 : w.cell? ⟨g, 1, none⟩ = some (.slice A1 l1.length c1) := (blk_cell hb 1).trans rfl
  by_cases h6 : l0.length ≤ 6
  · by_cases hl : l1.length = l0.length
    · have b0 : decide ((6 : Int) < (l0.length : Int)) = false := decide_eq_false (by omega)
      have b1 : decide (6 < l0.length) = false := decide_eq_false (by omega)
      have b2 : ((l1.length : Int) != (l0.length : Int)) = false := by simp; omega
      have hF : scopeB l0 l1 = (List.range l0.length).all (atB l0 l1) := by unfold scopeB; rw [decide_eq_true ⟨h6, hl⟩, Bool.true_and]
      obtain ⟨R, hR⟩ : ∃ R, scopeB l0 l1 = R := ⟨_, rfl⟩
      rw [hR] at hF
      rw [hR]
      have HF := Aside0.mk hF
      have HB := Aside0.mk hb
      have HR0 := Aside0.mk hr0
      have HR1 := Aside0.mk hr1
      have HS0 := Aside0.mk hs0
      have HS1 := Aside0.mk hs1
      have HL := Aside0.mk hl
      clear hb hr0 hr1 hs0 hs1 hR hF hl
      go_enter Tryd.func29, Tryd.ntmps29
      go_wp2
      go_quiet (fail)
      go_wp2
      go_loopw [3] (fun v3 wr => ∃ k : Nat, k ≤ l0.length ∧ v3 = .int .i64 (k : Int) ∧ Aside0 ((List.range k).all (atB l0 l1) = true) ∧ Aside0 (Drawn0 w wr)) (fun v3 _ => l0.length - (intOf v3).toNat)
      case atStart => exact ⟨0, Nat.zero_le _, rfl, ⟨rfl⟩, ⟨⟨⟨_, rfl⟩⟩⟩⟩
      case round =>
        obtain ⟨k, hk, rfl, HA, HD⟩ := hrel
        have hbr := HB.out
        have z0 : wr.cell? ⟨g, 0, none⟩ = some (.slice A0 l0.length c0) := by obtain ⟨m, rfl⟩ := HD.out; exact (blk_cell hbr 0).trans rfl
        have z1 : wr.cell? ⟨g, 1, none⟩ = some (.slice A1 l1.length c1) := by obtain ⟨m, rfl⟩ := HD.out; exact (blk_cell hbr 1).trans rfl
        clear hbr
        by_cases hlt : k < l0.length
        · obtain ⟨ad, rfl, hx0⟩ := Kd.at_string HR0.out (k : Int) (by omega) (by omega)
          obtain ⟨ae, rfl, hy0⟩ := Kd.at_string HR1.out (k : Int) (by omega) (by have := HL.out; omega)
          rw [Int.toNat_natCast] at hx0 hy0
          have hn : (rdOf ByteArray.empty l0 (k : Int)) = l0[k]'hlt := by simp [rdOf, hlt]
          have hv : (rdOf ByteArray.empty l1 (k : Int)) = l1[k]'(by have := HL.out; omega) := by simp [rdOf, show k < l1.length by have := HL.out; omega]
          obtain ⟨nm, hnm⟩ : ∃ nm, l0[k]'hlt = nm := ⟨_, rfl⟩
          obtain ⟨wv, hwv⟩ : ∃ wv, l1[k]'(by have := HL.out; omega) = wv := ⟨_, rfl⟩
          have hat : atB l0 l1 k = (nameB nm && (decide (k = 0) || Op.bytesLess (l0.getD (k - 1) ByteArray.empty).toList nm.toList) && waveB wv) := by
            unfold atB
            rw [show l0.getD k ByteArray.empty = nm by rw [← hnm]; simp [hlt], show l1.getD k ByteArray.empty = wv by rw [← hwv]; simp [show k < l1.length by have := HL.out; omega]]
          obtain ⟨kn, hkn⟩ := name_is nm (by rw [← hnm]; exact HS0.out _ (List.getElem_mem hlt))
          obtain ⟨kw, hkw⟩ := wave_is wv (by rw [← hwv]; exact HS1.out _ (List.getElem_mem _))
          rw [hn, hnm] at hx0
          rw [hv, hwv] at hy0
          have hD := HD.out
          replace hx0 : wr.cell? (ad.add k) = some (.string nm) := by obtain ⟨m, rfl⟩ := hD; exact hx0
          replace hy0 : wr.cell? (ae.add k) = some (.string wv) := by obtain ⟨m, rfl⟩ := hD; exact hy0
          have i0 : (0 : Int) ≤ (k : Int) := by omega
          have i1 : (k : Int) < (l0.length : Int) := by omega
          have i2 : (k : Int) < (l1.length : Int) := by have := HL.out; omega
          cases e1 : nameB nm with
          | false =>
            rw [e1] at hkn hat
            have HN := Aside0.mk hkn
            have HBAD := Aside0.mk (show atB l0 l1 k = false from hat.trans rfl)
            clear hkn hkw hat hn hv hnm hwv e1 hD
            go_wp2
            go_quiet (first
              | ((go_at_call 48; exact Calls.quiet_of ((spec_IsName.calls kn nm false _ HN.out).mono fun e W hh => ⟨hh.1, drawn_quiet hh.2⟩))))
            go_wp2
            go_ret
            exact ⟨by rw [HF.out, range_bad hlt HBAD.out]; rfl, drawn_more HD.out⟩
          | true =>
            rw [e1] at hkn hat
            have HN := Aside0.mk hkn
            clear hkn hn hv hnm hwv e1 hD
            by_cases hk0 : k = 0
            · have hpos : decide ((0 : Int) < (k : Int)) = false := decide_eq_false (by omega)
              have hposN : decide (0 < k) = false := decide_eq_false (by omega)
              rw [decide_eq_true hk0] at hat
              cases e3 : waveB wv with
              | false =>
                rw [e3] at hkw hat
                have HW := Aside0.mk hkw
                have HBAD := Aside0.mk (show atB l0 l1 k = false from hat.trans (by simp))
                clear hkw hat e3 hk0
                go_wp2
                go_quiet (first
                  | ((go_at_call 48; exact Calls.quiet_of ((spec_IsName.calls kn nm true _ HN.out).mono fun e W hh => ⟨hh.1, drawn_quiet hh.2⟩)))
                  | ((go_at_call 49; exact Calls.quiet_of ((spec_l01Wave.calls kw wv false _ HW.out).mono fun e W hh => ⟨hh.1, drawn_quiet hh.2⟩))))
                go_wp2
                go_ret
                exact ⟨by rw [HF.out, range_bad hlt HBAD.out]; rfl, drawn_more HD.out⟩
              | true =>
                rw [e3] at hkw hat
                have HW := Aside0.mk hkw
                have HGOOD := Aside0.mk (show atB l0 l1 k = true from hat.trans (by simp))
                clear hkw hat e3 hk0
                go_wp2
                go_quiet (first
                  | ((go_at_call 48; exact Calls.quiet_of ((spec_IsName.calls kn nm true _ HN.out).mono fun e W hh => ⟨hh.1, drawn_quiet hh.2⟩)))
                  | ((go_at_call 49; exact Calls.quiet_of ((spec_l01Wave.calls kw wv true _ HW.out).mono fun e W hh => ⟨hh.1, drawn_quiet hh.2⟩))))
                go_wp2
                refine ⟨⟨k + 1, by omega, by go_num, ⟨range_next HA.out HGOOD.out⟩, ⟨drawn_more HD.out⟩⟩, by simp [intOf]; omega⟩
            · have hpos : decide ((0 : Int) < (k : Int)) = true := decide_eq_true (by omega)
              have hposN : decide (0 < k) = true := decide_eq_true (by omega)
              rw [decide_eq_false hk0] at hat
              obtain ⟨ap, hap, hp0⟩ := Kd.at_string HR0.out ((k - 1 : Nat) : Int) (by omega) (by omega)
              cases hap
              have hpn : (rdOf ByteArray.empty l0 ((k - 1 : Nat) : Int)) = l0.getD (k - 1) ByteArray.empty := by simp [rdOf]
              obtain ⟨pv, hpv⟩ : ∃ pv, l0.getD (k - 1) ByteArray.empty = pv := ⟨_, rfl⟩
              rw [Int.toNat_natCast, hpn, hpv] at hp0
              rw [hpv] at hat
              have hD := HD.out
              replace hp0 : wr.cell? (ad.add (k - 1)) = some (.string pv) := by obtain ⟨m, rfl⟩ := hD; exact hp0
              have j0 : IntKind.i64.wrap ((k : Int) - 1) = ((k - 1 : Nat) : Int) := by rw [IntKind.wrap_i64]; omega
              have j1 : (0 : Int) ≤ ((k - 1 : Nat) : Int) := by omega
              have j2 : ((k - 1 : Nat) : Int) < (l0.length : Int) := by omega
              clear hpn hpv hD hk0
              cases e2 : Op.bytesLess pv.toList nm.toList with
              | false =>
                rw [e2] at hat
                have HBAD := Aside0.mk (show atB l0 l1 k = false from hat.trans (by simp))
                clear hkw hat
                go_wp2
                go_quiet (first
                  | ((go_at_call 48; exact Calls.quiet_of ((spec_IsName.calls kn nm true _ HN.out).mono fun e W hh => ⟨hh.1, drawn_quiet hh.2⟩))))
                go_wp2
                go_ret
                exact ⟨by rw [HF.out, range_bad hlt HBAD.out]; rfl, drawn_more HD.out⟩
              | true =>
                rw [e2] at hat
                cases e3 : waveB wv with
                | false =>
                  rw [e3] at hkw hat
                  have HW := Aside0.mk hkw
                  have HBAD := Aside0.mk (show atB l0 l1 k = false from hat.trans (by simp))
                  clear hkw hat e3 
                  go_wp2
                  go_quiet (first
                    | ((go_at_call 48; exact Calls.quiet_of ((spec_IsName.calls kn nm true _ HN.out).mono fun e W hh => ⟨hh.1, drawn_quiet hh.2⟩)))
                    | ((go_at_call 49; exact Calls.quiet_of ((spec_l01Wave.calls kw wv false _ HW.out).mono fun e W hh => ⟨hh.1, drawn_quiet hh.2⟩))))
                  go_wp2
                  go_ret
                  exact ⟨by rw [HF.out, range_bad hlt HBAD.out]; rfl, drawn_more HD.out⟩
                | true =>
                  rw [e3] at hkw hat
                  have HW := Aside0.mk hkw
                  have HGOOD := Aside0.mk (show atB l0 l1 k = true from hat.trans (by simp))
                  clear hkw hat e3 
                  go_wp2
                  go_quiet (first
                    | ((go_at_call 48; exact Calls.quiet_of ((spec_IsName.calls kn nm true _ HN.out).mono fun e W hh => ⟨hh.1, drawn_quiet hh.2⟩)))
                    | ((go_at_call 49; exact Calls.quiet_of ((spec_l01Wave.calls kw wv true _ HW.out).mono fun e W hh => ⟨hh.1, drawn_quiet hh.2⟩))))
                  go_wp2
                  refine ⟨⟨k + 1, by omega, by go_num, ⟨range_next HA.out HGOOD.out⟩, ⟨drawn_more HD.out⟩⟩, by simp [intOf]; omega⟩
        · go_wp2
          go_ret
          exact ⟨by rw [HF.out, show l0.length = k by omega, HA.out]; rfl, HD.out⟩
    · have b0 : decide ((6 : Int) < (l0.length : Int)) = false := decide_eq_false (by omega)
      have b1 : decide (6 < l0.length) = false := decide_eq_false (by omega)
      have b2 : ((l1.length : Int) != (l0.length : Int)) = true := by simp; omega
      have hF := Aside0.mk (show scopeB l0 l1 = false by unfold scopeB; rw [decide_eq_false (fun z => hl z.2)]; rfl)
      clear hb hr0 hr1 hl
      go_enter Tryd.func29, Tryd.ntmps29
      go_wp2
      go_quiet (fail)
      go_wp2
      go_ret
      exact ⟨by rw [hF.out]; rfl, ⟨⟨_, rfl⟩⟩⟩
  · have b0 : decide ((6 : Int) < (l0.length : Int)) = true := decide_eq_true (by omega)
    have b1 : decide (6 < l0.length) = true := decide_eq_true (by omega)
    have hF := Aside0.mk (show scopeB l0 l1 = false by unfold scopeB; rw [decide_eq_false (fun z => h6 z.1)]; rfl)
    clear hb hr0 hr1
    go_enter Tryd.func29, Tryd.ntmps29
    go_wp2
    go_quiet (fail)
    go_wp2
    go_ret
    exact ⟨by rw [hF.out]; rfl, ⟨⟨_, rfl⟩⟩⟩
set_option maxHeartbeats 3200000 in
set_option maxRecDepth 100000 in
theorem spec_ValidScope.calls (A0_0 : Option Addr) (c0_0 : Nat) (l0_0 : List ByteArray) (A0_1 : Option Addr) (c0_1 : Nat) (l0_1 : List ByteArray) (r : Bool) (w : World) (hr0_0 : Kd.C Kd.string w A0_0 l0_0.length l0_0) (hc0_0 : l0_0.length ≤ c0_0) (hr0_1 : Kd.C Kd.string w A0_1 l0_1.length l0_1) (hc0_1 : l0_1.length ≤ c0_1) (h : spec_ValidScope.f l0_0 l0_1 = some r) :
    Calls Tryd.prog 10 #[.agg #[.slice A0_0 l0_0.length c0_0, .slice A0_1 l0_1.length c0_1]] w fun e w' => e = .returned (.bool r) ∧ Below w.heap.size w w' := by
  unfold spec_ValidScope.f at h
  by_cases c : (∀ s ∈ l0_0, s.size ≤ 9223372036854775807) ∧ (∀ s ∈ l0_1, s.size ≤ 9223372036854775807)
  · rw [if_pos c] at h
    obtain rfl := Option.some.inj h
    have hu27 := Tryd.underlying27
    have CB := Aside0.mk (below_alloc (Below.refl w.heap.size w) (.cells #[.slice A0_0 l0_0.length c0_0, .slice A0_1 l0_1.length c0_1] 27))
    have BK := Aside0.mk (blk_new w (.cells #[.slice A0_0 l0_0.length c0_0, .slice A0_1 l0_1.length c0_1] 27))
    have HR0 := Aside0.mk (Kd.C_below hr0_0 CB.out)
    have HR1 := Aside0.mk (Kd.C_below hr0_1 CB.out)
    have HC := Aside0.mk c
    clear hr0_0 hr0_1 h c
    go_enter Tryd.func10, Tryd.ntmps10
    go_wp2_with (first
      | (go_at_call 29; refine (spec_ValidScope.is_ w.heap.size A0_0 A0_1 c0_0 c0_1 l0_0 l0_1 _ BK.out HR0.out HR1.out HC.out.1 HC.out.2).mono ?_; rintro e w1 ⟨rfl, hd⟩; have C1 := Aside0.mk (below_drawn CB.out hd); clear hd))
    go_ret
    exact ⟨rfl, C1.out⟩
  · rw [if_neg c] at h
    exact absurd h (by simp)
/-- The same, where the reference's functions hand on a pointer to a scope of their own. -/
theorem spec_ValidScope.at_ (g : Nat) (A0_0 : Option Addr) (c0_0 : Nat) (l0_0 : List ByteArray) (A0_1 : Option Addr) (c0_1 : Nat) (l0_1 : List ByteArray) (r : Bool) (w : World) (hb : w.heap[g]? = some (.cells #[.slice A0_0 l0_0.length c0_0, .slice A0_1 l0_1.length c0_1] 27 (0, 0))) (hr0_0 : Kd.C Kd.string w A0_0 l0_0.length l0_0) (hr0_1 : Kd.C Kd.string w A0_1 l0_1.length l0_1) (h : spec_ValidScope.f l0_0 l0_1 = some r) :
    Calls Tryd.prog 29 #[.pointer (some ⟨g, 0, none⟩)] w fun e w' => e = .returned (.bool r) ∧ Below w.heap.size w w' := by
  unfold spec_ValidScope.f at h
  by_cases c : (∀ s ∈ l0_0, s.size ≤ 9223372036854775807) ∧ (∀ s ∈ l0_1, s.size ≤ 9223372036854775807)
  · rw [if_pos c] at h
    obtain rfl := Option.some.inj h
    exact (spec_ValidScope.is_ g A0_0 A0_1 c0_0 c0_1 l0_0 l0_1 w hb hr0_0 hr0_1 c.1 c.2).mono fun e w' hh => ⟨hh.1, below_drawn (Below.refl w.heap.size w) hh.2⟩
  · rw [if_neg c] at h
    exact absurd h (by simp)

end Go.Proofs.YtjpjlobpglmoiaaDoor.A
