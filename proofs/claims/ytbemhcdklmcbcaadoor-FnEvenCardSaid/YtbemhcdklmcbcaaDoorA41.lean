-- Printed by this session's oprint.py through the kit's printer.
import Derived.Test.YtbemhcdklmcbcaaDoorA0
namespace Go.Proofs.YtbemhcdklmcbcaaDoor.A
open Go.RowKit Go.Proofs.YtbemhcdklmcbcaaDoorW.PrintWords Go.Proofs.YtbemhcdklmcbcaaDoorW.PrintLast Go.Proofs.YtbemhcdklmcbcaaDoorW.PrintMore
attribute [local go_sem] max2_int min2_int max_two min_two max_three min_three max_four min_four   -- for this text's walks alone
set_option linter.unusedVariables false
set_option linter.unusedSimpArgs false

/-! ### impl_waveOf: function 41 -/
-- given: proved by hand (waveOf.tpl)
/-- The bytes of the wave whose levels are lev 0, lev 1, .. -/
def impl_waveOf.bytes (n : Nat) (lev : Nat → Bool) : List Int := (List.range n).map fun i => if lev i = true then 49 else 48
def impl_waveOf.text (n : Nat) (lev : Nat → Bool) : ByteArray := strOfNums (impl_waveOf.bytes n lev)
theorem impl_waveOf.bytes_succ (n : Nat) (lev : Nat → Bool) : impl_waveOf.bytes (n + 1) lev = impl_waveOf.bytes n lev ++ [if lev n = true then 49 else 48] := by
  simp [impl_waveOf.bytes, List.range_succ]
theorem impl_waveOf.bytes_length (n : Nat) (lev : Nat → Bool) : (impl_waveOf.bytes n lev).length = n := by simp [impl_waveOf.bytes]
/-- What is asked of the function value that tells the levels: called at i in a world where Inv i holds, it tells lev i, and Inv (i + 1) holds then; of what lies from H on nothing that is there is changed, and nothing below base. -/
def impl_waveOf.Step (g : Nat) (lb : Array Value) (H base n : Nat) (lev : Nat → Bool) (Inv : Nat → World → Prop) : Prop :=
  ∀ (i : Nat) (W : World), i < n → H ≤ W.heap.size → Inv i W → Calls Tryd.prog g (#[.int .i64 (i : Int)] ++ lb) W fun e W' => e = .returned (.bool (lev i)) ∧ Inv (i + 1) W' ∧ Below base W W' ∧ ∀ k, H ≤ k → k < W.heap.size → W'.heap[k]? = W.heap[k]?
/-- Below a number that both worlds reach. -/
theorem below_into {B : Nat} {w W w2 : World} (h : Below B w W) (k : Below B W w2) : Below B w w2 := h.trans k
theorem impl_waveOf.info5 : (Tryd.prog.info? 5).map (fun i => (i.zero, i.size, i.bytes)) = some (some (.int .u8 0), 1, 1) := by kernel_rfl
set_option maxHeartbeats 1600000 in
set_option maxRecDepth 100000 in
theorem impl_waveOf.calls (g : Nat) (lb : Array Value) (eg : ∀ args w, (callFunc g args).run Tryd.prog w = .ok (.enter g args) w) (n : Nat) (hn : n ≤ 1000000) (lev : Nat → Bool) (Inv : Nat → World → Prop) (base : Nat) (w : World) (hbase : base ≤ w.heap.size)
    (hst : ∀ i W W', (∀ k, k < w.heap.size → W'.heap[k]? = W.heap[k]?) → Inv i W → Inv i W') (hstep : impl_waveOf.Step g lb w.heap.size base n lev Inv) (h0 : Inv 0 w) :
    Calls Tryd.prog 41 #[.int .i64 (n : Int), .func (.func g) #[] lb] w fun e w' => e = .returned (.string (impl_waveOf.text n lev)) ∧ Inv n w' ∧ Below base w w' := by
  have HST := Aside0.mk hst
  have HSTEP := Aside0.mk hstep
  have HI := Aside0.mk h0
  have HBASE := Aside0.mk hbase
  clear hst hstep h0 hbase
  go_enter Tryd.func41, Tryd.ntmps41
  go_wp2_with ((with_reducible refine gate_dst (N := 7) rfl ?_); refine Kd.R_lit (Kd.int .u8) _ 5 ?hg (N := 7) ?hd (xs := ([] : List Int)) (inner := []) (ok := fun _ => True) (okp := fun _ => True) ?hr ?hp (fun _ hk => hk) trivial (Below.refl _ _) (Nat.le_refl _) (by simp) ?_; (case hd => rfl); (case hg => rfl); (case hr => first | (go_simp; done) | (go_simp; rfl)); (case hp => exact (Reps.none _ _)); intro v7 w8 ho9 hb hg_ hnew_; clear hg_ hnew_; have HO := Aside0.mk ho9; have HB8 := Aside0.mk hb; clear ho9 hb)
  go_loopw [5, 9] (fun v5 v9 wr => ∃ k : Nat, k ≤ n ∧ v9 = .int .i64 (k : Int) ∧ Aside0 (Kd.R (Kd.int .u8) 5 wr w.heap.size (fun _ => True) v5 (impl_waveOf.bytes k lev)) ∧ Aside0 (Inv k wr) ∧ Aside0 (Below base w wr) ∧ w.heap.size ≤ wr.heap.size) (fun _ v9 _ => n - (intOf v9).toNat)
  case atStart => exact ⟨0, Nat.zero_le _, rfl, HO, ⟨HST.out 0 w w8 (fun k hk => HB8.out.block k hk) HI.out⟩, ⟨HB8.out.mono HBASE.out⟩, HB8.out.size⟩
  case round =>
    clear HO HB8 HI
    obtain ⟨k, hk, rfl, HO, HI, HB, hsz⟩ := hrel
    by_cases hlt : k < n
    · have hcall := HSTEP.out k wr hlt hsz HI.out
      have hs1 := impl_waveOf.bytes_succ k lev
      have hl1 := impl_waveOf.bytes_length k lev
      cases hl : lev k with
      | true =>
        rw [hl] at hcall hs1
        have HC := Aside0.mk hcall
        have HS := Aside0.mk hs1
        clear hcall hs1 hl
        go_wp2_with (first
          | (go_at_fn g; refine HC.out.mono ?_; rintro e w1 ⟨rfl, hi1, hb1, hf1⟩; have HI1 := Aside0.mk hi1; have HB1 := Aside0.mk (below_into HB.out hb1); have HO1 := Aside0.mk (Kd.R_mono (Kd.R_step (Kd.R_bound HO.out) (fun q hq hlt => hf1 q hq.2.1 hlt)) (ok' := fun _ => True) (fun _ _ => trivial)); have hsz1 := Nat.le_trans hsz hb1.size; clear hi1 hb1 hf1 HI HB HO HC hsz)
          | ((with_reducible refine gate_builtin (b := .append) (xs := #[.tmp 15, .tmp 16]) rfl ?_); at_builtin; refine Kd.R_append (Kd.int .u8) (w0 := w1) w.heap.size rfl (.tmp 15) (.tmp 16) 22 5 (.int .u8 0) 1 rfl Tryd.underlying22 impl_waveOf.info5 rfl (by decide) (by omega) u5 (impl_waveOf.bytes k lev) 49 [.int .u8 49] (fun _ => True) (fun _ => False) rfl rfl ?aP (fun _ hk => hk.elim) ?aF ?aO ?aB ?aS ?aL ?_; (case aP => exact rfl); (case aB => exact Below.refl _ _); (case aF => exact (fun _ _ => trivial)); (case aO => exact HO1.out); (case aS => exact hsz1); (case aL => omega); intro v5 w2 ho hb hg hat; have HO2 := Aside0.mk ho; have HG := Aside0.mk hg; have HB2 := Aside0.mk hb; clear ho hb hg hat))
        go_roundw
        case rel => exact ⟨k + 1, by omega, by go_num, ⟨by rw [HS.out]; exact HO2.out⟩, ⟨HST.out (k + 1) w1 w2 (fun q hq => HB2.out.block q hq) HI1.out⟩, ⟨below_into HB1.out (HB2.out.mono HBASE.out)⟩, Nat.le_trans hsz1 HB2.out.size⟩
        case measure => simp [intOf]; omega
      | false =>
        rw [hl] at hcall hs1
        have HC := Aside0.mk hcall
        have HS := Aside0.mk hs1
        clear hcall hs1 hl
        go_wp2_with (first
          | (go_at_fn g; refine HC.out.mono ?_; rintro e w1 ⟨rfl, hi1, hb1, hf1⟩; have HI1 := Aside0.mk hi1; have HB1 := Aside0.mk (below_into HB.out hb1); have HO1 := Aside0.mk (Kd.R_mono (Kd.R_step (Kd.R_bound HO.out) (fun q hq hlt => hf1 q hq.2.1 hlt)) (ok' := fun _ => True) (fun _ _ => trivial)); have hsz1 := Nat.le_trans hsz hb1.size; clear hi1 hb1 hf1 HI HB HO HC hsz)
          | ((with_reducible refine gate_builtin (b := .append) (xs := #[.tmp 18, .tmp 19]) rfl ?_); at_builtin; refine Kd.R_append (Kd.int .u8) (w0 := w1) w.heap.size rfl (.tmp 18) (.tmp 19) 22 5 (.int .u8 0) 1 rfl Tryd.underlying22 impl_waveOf.info5 rfl (by decide) (by omega) u5 (impl_waveOf.bytes k lev) 48 [.int .u8 48] (fun _ => True) (fun _ => False) rfl rfl ?aP (fun _ hk => hk.elim) ?aF ?aO ?aB ?aS ?aL ?_; (case aP => exact rfl); (case aB => exact Below.refl _ _); (case aF => exact (fun _ _ => trivial)); (case aO => exact HO1.out); (case aS => exact hsz1); (case aL => omega); intro v5 w2 ho hb hg hat; have HO2 := Aside0.mk ho; have HG := Aside0.mk hg; have HB2 := Aside0.mk hb; clear ho hb hg hat))
        go_roundw
        case rel => exact ⟨k + 1, by omega, by go_num, ⟨by rw [HS.out]; exact HO2.out⟩, ⟨HST.out (k + 1) w1 w2 (fun q hq => HB2.out.block q hq) HI1.out⟩, ⟨below_into HB1.out (HB2.out.mono HBASE.out)⟩, Nat.le_trans hsz1 HB2.out.size⟩
        case measure => simp [intOf]; omega
    · have : k = n := by omega
      subst this
      have hcv := own_string (P := Tryd.prog) Tryd.underlying22 Tryd.underlying5 Tryd.underlying9 (Kd.own_of_R HO.out)
      go_wp2
      go_ret
      exact ⟨rfl, HI.out, HB.out⟩

end Go.Proofs.YtbemhcdklmcbcaaDoor.A
