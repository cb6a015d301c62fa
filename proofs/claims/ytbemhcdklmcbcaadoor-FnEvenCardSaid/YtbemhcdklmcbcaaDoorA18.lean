-- Printed by this session's oprint.py through the kit's printer.
import Derived.Test.YtbemhcdklmcbcaaDoorA0
import Derived.Test.YtbemhcdklmcbcaaDoorA41
import Derived.Test.YtbemhcdklmcbcaaDoorA45
namespace Go.Proofs.YtbemhcdklmcbcaaDoor.A
open Go.RowKit Go.Proofs.YtbemhcdklmcbcaaDoorW.PrintWords Go.Proofs.YtbemhcdklmcbcaaDoorW.PrintLast Go.Proofs.YtbemhcdklmcbcaaDoorW.PrintMore
attribute [local go_sem] max2_int min2_int max_two min_two max_three min_three max_four min_four   -- for this text's walks alone
set_option linter.unusedVariables false
set_option linter.unusedSimpArgs false

/-! ### impl_NotWave: function 18 -/
-- given: proved by hand (notwave.tpl)
/-- The level that is not that of the wave. -/
def impl_NotWave.lev (a : ByteArray) (i : Nat) : Bool := bt a (i : Int) == 48
def impl_NotWave.f (a : ByteArray) : Option (ByteArray × Bool) :=
  (impl_IsWave.f a).bind fun t => if t = true then some (impl_waveOf.text a.size (impl_NotWave.lev a), true) else some (⟨#[]⟩, false)
def boxS (x : ByteArray) : Obj := .cells #[.string x] 9 (0, 0)
theorem impl_NotWave.short {a : ByteArray} (h : impl_IsWave.f a = some true) : a.size ≤ 400 := by
  unfold impl_IsWave.f at h
  by_cases c : (a.size : Int) ≤ 400
  · omega
  · rw [if_neg c] at h; cases h
set_option maxHeartbeats 1600000 in
set_option maxRecDepth 100000 in
theorem impl_NotWave.level (g : Nat) (a : ByteArray) (i : Nat) (W : World) (hc : W.heap[g]? = some (boxS a)) (hi : i < a.size) :
    Calls Tryd.prog 46 #[.int .i64 (i : Int), .pointer (some ⟨g, 0, none⟩)] W fun e W' => e = .returned (.bool (impl_NotWave.lev a i)) ∧ ∃ k, W' = W.drewN k := by
  have hc0 : W.cell? ⟨g, 0, none⟩ = some (.string a) := (blk_cell hc 0).trans rfl
  have HF := Aside0.mk (show impl_NotWave.lev a i = (bt a (i : Int) == 48) from rfl)
  obtain ⟨j, hj⟩ : ∃ j : Int, (i : Int) = j := ⟨_, rfl⟩
  rw [hj] at HF
  have c6b0 : decide (0 ≤ j) = true := decide_eq_true (by omega)
  have c7b0 : decide (j < (a.size : Int)) = true := decide_eq_true (by omega)
  rw [hj]
  have hx8 := bt_at a j
  have p8 := eq_true (show 0 ≤ j by omega)
  have q8 := eq_true (show j < (a.size : Int) by omega)
  clear hc hi hj
  cases hb : (bt a j == 48)
  · rw [hb] at HF
    go_enter Tryd.func46, Tryd.ntmps46
    go_wp2
    go_ret
    exact ⟨by rw [HF.out]; first | rfl | (simp [*]; done), ⟨0, rfl⟩⟩
  · rw [hb] at HF
    go_enter Tryd.func46, Tryd.ntmps46
    go_wp2
    go_ret
    exact ⟨by rw [HF.out]; first | rfl | (simp [*]; done), ⟨0, rfl⟩⟩
set_option maxHeartbeats 1600000 in
set_option maxRecDepth 100000 in
theorem impl_NotWave.calls (a : ByteArray) (r1 : ByteArray) (r2 : Bool) (w : World) (h : impl_NotWave.f a = some (r1, r2)) :
    Calls Tryd.prog 18 #[.string a] w fun e w' => e = .returned (.tuple #[.string r1, .bool r2]) ∧ Below w.heap.size w w' := by
  unfold impl_NotWave.f at h
  obtain ⟨t, ht, h⟩ := Option.bind_eq_some_iff.mp h
  have HV1 := Aside0.mk ht
  cases t
  · rw [if_neg (by decide)] at h
    simp only [Option.some.injEq, Prod.mk.injEq] at h
    obtain ⟨rfl, rfl⟩ := h
    clear ht
    go_enter Tryd.func18, Tryd.ntmps18
    go_wp2_with (first
      | ((with_reducible refine gate_dst (N := 1) rfl ?_); refine box_event ?hg (N := 1) ?hd (cs := #[.string a]) (t := 9) ?hr ?_; (case hd => rfl); (case hg => rfl); (case hr => first | (go_simp; done) | (go_simp; rfl)); intro g hgs w1 hbox hb; have S1 := Aside0.mk hbox; have HB := Aside0.mk hb; clear hbox hb hgs; have x0 := (blk_cell S1.out 0).trans rfl)
      | (go_at_call 45; refine (impl_IsWave.calls a false _ HV1.out).mono ?_; rintro e w3 ⟨rfl, hd⟩; clear x0; have S3 := Aside0.mk (blk_below S1.out hd); have HB3 := Aside0.mk (below_step HB.out hd); clear hd HB; have x0 := (blk_cell S3.out 0).trans rfl))
    go_ret2
    exact ⟨rfl, HB3.out⟩
  · rw [if_pos rfl] at h
    simp only [Option.some.injEq, Prod.mk.injEq] at h
    obtain ⟨rfl, rfl⟩ := h
    have hs := impl_NotWave.short ht
    have C := Aside0.mk hs
    clear ht hs
    go_enter Tryd.func18, Tryd.ntmps18
    go_wp2_with (first
      | ((with_reducible refine gate_dst (N := 1) rfl ?_); refine box_event ?hg (N := 1) ?hd (cs := #[.string a]) (t := 9) ?hr ?_; (case hd => rfl); (case hg => rfl); (case hr => first | (go_simp; done) | (go_simp; rfl)); intro g hgs w1 hbox hb; have S1 := Aside0.mk hbox; have HB := Aside0.mk hb; clear hbox hb hgs; have x0 := (blk_cell S1.out 0).trans rfl)
      | (go_at_call 45; refine (impl_IsWave.calls a true _ HV1.out).mono ?_; rintro e w3 ⟨rfl, hd⟩; clear x0; have S3 := Aside0.mk (blk_below S1.out hd); have HB3 := Aside0.mk (below_step HB.out hd); clear hd HB; have x0 := (blk_cell S3.out 0).trans rfl)
      | (go_at_call 41; refine (impl_waveOf.calls 46 #[.pointer (some ⟨g, 0, none⟩)] (enters_of Tryd.func46 (by kernel_rfl) rfl) a.size (by have := C.out; omega) (impl_NotWave.lev a) (fun _ W => W.heap[g]? = some (boxS a)) w.heap.size w3 (HB3.out.size) (fun _ W W' hk hI => (hk g (blk_lt S3.out)).trans hI) (fun i W hi _ hI => (impl_NotWave.level g a i W hI hi).mono fun e W' ⟨he, k, hk⟩ => ⟨he, by subst hk; exact hI, by subst hk; exact pw_below_drewN (Below.refl _ _) _, by subst hk; exact fun _ _ _ => rfl⟩) S3.out).mono ?_; rintro e w5 ⟨rfl, _, hb⟩; have HB5 := Aside0.mk (HB3.out.trans hb); clear hb))
    go_ret2
    exact ⟨rfl, HB5.out⟩

end Go.Proofs.YtbemhcdklmcbcaaDoor.A
