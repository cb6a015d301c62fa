/- Texts of this claim, put together by this session's pack2.py: each part is introduced by its own comment. No conditions. -/
import Derived.Test.YtgmnbpdfdagniaaK3
import Derived.Deep.AppendLies
import Derived.Deep.RegionLaw
/- The number of a link's state (the reference). No conditions. -/
namespace Go.Proofs.Ytgmnbpdfdagniaa.A
open Go.RowKit Go.Proofs.YtgmnbpdfdagniaaW.PrintWords Go.Proofs.YtgmnbpdfdagniaaW.PrintLast Go.Proofs.YtgmnbpdfdagniaaW.PrintMore
set_option linter.unusedVariables false
set_option linter.unusedSimpArgs false
def kkL (xs : List Int) : Int := xs.foldl (fun k p => wrap64 (wrap64 (8 * k) + p)) 0
theorem kkL_next (xs : List Int) (k : Nat) (h : k < xs.length) : kkL (xs.take (k + 1)) = wrap64 (wrap64 (8 * kkL (xs.take k)) + rd xs (k : Int)) := by
  unfold kkL
  rw [List.take_succ_eq_append_getElem h, List.foldl_append]
  simp [rd, h]
def partsK (x : S57) : List Int := [x.f0, x.f1, x.f2, wrap64 (x.f3 + 1), x.f4, x.f5, x.f6, x.f7, x.f8, x.f9, x.f10, x.f11]
def keyK (x : S57) : Int := kkL (partsK x)
theorem partsK_len (x : S57) : (partsK x).length = 12 := rfl
set_option maxHeartbeats 6400000 in
set_option maxRecDepth 100000 in
theorem keyK.calls (gx : Nat) (x : S57) (w : World) (hx : w.heap[gx]? = some (boxK x)) :
    Calls Try.prog 39 #[.pointer (some ⟨gx, 0, none⟩)] w fun e w' => e = .returned (.int .i64 (keyK x)) ∧ Below w.heap.size w w' := by
  obtain ⟨x0, x1, x2, x3, x4, x5, x6, x7, x8, x9, x10, x11⟩ := k_cells hx
  clear hx
  go_enter Try.func39, Try.ntmps39
  go_wp2
  go_region_held3 (fun w' => w'.cell? ⟨gx, 0, none⟩ = some (.int .i64 x.f0) ∧ w'.cell? ⟨gx, 1, none⟩ = some (.int .i64 x.f1) ∧ w'.cell? ⟨gx, 2, none⟩ = some (.int .i64 x.f2) ∧ w'.cell? ⟨gx, 3, none⟩ = some (.int .i64 x.f3) ∧ w'.cell? ⟨gx, 4, none⟩ = some (.int .i64 x.f4) ∧ w'.cell? ⟨gx, 5, none⟩ = some (.int .i64 x.f5) ∧ w'.cell? ⟨gx, 6, none⟩ = some (.int .i64 x.f6) ∧ w'.cell? ⟨gx, 7, none⟩ = some (.int .i64 x.f7) ∧ w'.cell? ⟨gx, 8, none⟩ = some (.int .i64 x.f8) ∧ w'.cell? ⟨gx, 9, none⟩ = some (.int .i64 x.f9) ∧ w'.cell? ⟨gx, 10, none⟩ = some (.int .i64 x.f10) ∧ w'.cell? ⟨gx, 11, none⟩ = some (.int .i64 x.f11))
    (first
      | exact ⟨x0, x1, x2, x3, x4, x5, x6, x7, x8, x9, x10, x11⟩
      | go_keep)
    (fail)
  obtain ⟨gp, hgp⟩ : ∃ gp, w.heap.size = gp := ⟨_, rfl⟩
  have HC := Aside0.mk (show ∀ k : Nat, k < 12 → ((w.alloc (.cells #[.int .i64 (x.f0), .int .i64 (x.f1), .int .i64 (x.f2), .int .i64 (wrap64 (x.f3 + 1)), .int .i64 (x.f4), .int .i64 (x.f5), .int .i64 (x.f6), .int .i64 (x.f7), .int .i64 (x.f8), .int .i64 (x.f9), .int .i64 (x.f10), .int .i64 (x.f11)] 2)).drew).cell? ⟨w.heap.size, k, none⟩ = some (.int .i64 (rd (partsK x) (k : Int))) from fun k hk => by
    have hb := blk_new w (.cells #[.int .i64 (x.f0), .int .i64 (x.f1), .int .i64 (x.f2), .int .i64 (wrap64 (x.f3 + 1)), .int .i64 (x.f4), .int .i64 (x.f5), .int .i64 (x.f6), .int .i64 (x.f7), .int .i64 (x.f8), .int .i64 (x.f9), .int .i64 (x.f10), .int .i64 (x.f11)] 2)
    rcases (show k = 0 ∨ k = 1 ∨ k = 2 ∨ k = 3 ∨ k = 4 ∨ k = 5 ∨ k = 6 ∨ k = 7 ∨ k = 8 ∨ k = 9 ∨ k = 10 ∨ k = 11 by omega) with rfl | rfl | rfl | rfl | rfl | rfl | rfl | rfl | rfl | rfl | rfl | rfl <;> exact (blk_cell hb _).trans rfl)
  have HB := Aside0.mk (below_drew (below_alloc (Below.refl w.heap.size w) (.cells #[.int .i64 (x.f0), .int .i64 (x.f1), .int .i64 (x.f2), .int .i64 (wrap64 (x.f3 + 1)), .int .i64 (x.f4), .int .i64 (x.f5), .int .i64 (x.f6), .int .i64 (x.f7), .int .i64 (x.f8), .int .i64 (x.f9), .int .i64 (x.f10), .int .i64 (x.f11)] 2)))
  simp only [i64_w]
  obtain ⟨W, hW⟩ : ∃ W, ((w.alloc (.cells #[.int .i64 (x.f0), .int .i64 (x.f1), .int .i64 (x.f2), .int .i64 (wrap64 (x.f3 + 1)), .int .i64 (x.f4), .int .i64 (x.f5), .int .i64 (x.f6), .int .i64 (x.f7), .int .i64 (x.f8), .int .i64 (x.f9), .int .i64 (x.f10), .int .i64 (x.f11)] 2)).drew) = W := ⟨_, rfl⟩
  rw [hW] at HC HB ⊢
  rw [hgp] at HC ⊢
  clear hW hgp x0 x1 x2 x3 x4 x5 x6 x7 x8 x9 x10 x11
  go_wp2
  go_loopw [3, 5] (fun v3 v5 wp => ∃ k : Nat, k ≤ 12 ∧ v5 = .int .i64 (k : Int) ∧ v3 = .int .i64 (kkL ((partsK x).take k)) ∧ wp = W) (fun v3 v5 _ => 12 - (intOf v5).toNat)
  case atStart => exact ⟨0, by omega, rfl, rfl, rfl⟩
  case round =>
    obtain ⟨kp, hkp, rfl, rfl, rfl⟩ := hrel
    by_cases hk7 : kp < 12
    · have hk7b : decide ((kp : Int) < 12) = true := decide_eq_true (by omega)
      have y14 := HC.out kp hk7
      obtain ⟨pz, hpz⟩ : ∃ pz, rd (partsK x) (kp : Int) = pz := ⟨_, rfl⟩
      have HNXT := Aside0.mk (kkL_next (partsK x) kp (by rw [partsK_len]; omega))
      obtain ⟨ky, hky⟩ : ∃ ky, kkL ((partsK x).take kp) = ky := ⟨_, rfl⟩
      rw [hpz] at y14
      rw [hky]
      have HN2 := Aside0.mk (show kkL ((partsK x).take (kp + 1)) = wrap64 (wrap64 (8 * ky) + pz) by rw [HNXT.out, hky, hpz])
      have hkp0 : (0 : Int) ≤ (kp : Int) := by omega
      have hkp7 : (kp : Int) < 12 := by omega
      clear hpz hky
      go_wp2
      exact ⟨⟨kp + 1, by omega, by go_num, by first | trivial | rw [HN2.out], by first | trivial | rfl⟩, by simp [intOf]; omega⟩
    · obtain rfl : kp = 12 := by omega
      have hkey : kkL ((partsK x).take 12) = keyK x := rfl
      rw [hkey]
      clear hkey
      go_wp2
      go_ret
      exact ⟨rfl, HB.out⟩
end Go.Proofs.Ytgmnbpdfdagniaa.A
/- The program's link: where it begins, what a side sees, how a row moves on. No conditions. -/
namespace Go.Proofs.Ytgmnbpdfdagniaa.A
open Go.RowKit Go.Proofs.YtgmnbpdfdagniaaW.PrintWords Go.Proofs.YtgmnbpdfdagniaaW.PrintLast Go.Proofs.YtgmnbpdfdagniaaW.PrintMore
set_option linter.unusedVariables false
set_option linter.unusedSimpArgs false
/-- A link's node. -/
structure LN where
  sent : Int
  req : Int
  ans : Int
  plc : Int
  ow : Bool
  word : Int
  gone : Int
  s0 : Int
  s1 : Int
  r0 : Int
  r1 : Int
  taken : Int
  last : Int
  run : Int
def boxN (x : LN) : Obj := .cells #[.int .i64 x.sent, .int .i64 x.req, .int .i64 x.ans, .int .i64 x.plc, .bool x.ow, .int .i64 x.word, .int .i64 x.gone, .int .i64 x.s0, .int .i64 x.s1, .int .i64 x.r0, .int .i64 x.r1, .int .i64 x.taken, .int .u8 x.last, .int .i64 x.run] 55 (0, 0)
def seesF (l : Lnk) (a b set : Int) : Option Int := if l.sg = 0 then some set else if l.sg = 1 then some a else if l.sg = 2 then some b else none
set_option maxHeartbeats 6400000 in
set_option maxRecDepth 100000 in
theorem seesF.calls (l : Lnk) (a b set r : Int) (w : World) (h : seesF l a b set = some r) :
    Calls Try.prog 59 #[.agg #[.int .i64 l.ph, .int .i64 l.sg, .int .i64 l.sk, .int .i64 l.wd], .agg #[.int .i64 a, .int .i64 b], .int .i64 set] w fun e w' => e = .returned (.int .i64 r) ∧ Below w.heap.size w w' := by
  unfold seesF at h
  by_cases c0 : l.sg = 0
  · rw [if_pos c0] at h
    cases h
    have c0b : (l.sg == 0) = true := beq_iff_eq.2 c0
    clear c0
    go_enter Try.func59, Try.ntmps59
    go_wp2_with (first
      | ((with_reducible refine gate_dst (N := 3) rfl ?_); refine box_event ?hg (N := 3) ?hd (cs := #[.int .i64 l.ph, .int .i64 l.sg, .int .i64 l.sk, .int .i64 l.wd]) (t := 33) ?hr ?_; (case hd => rfl); (case hg => rfl); (case hr => first | (go_simp; done) | (go_simp; rfl)); intro gl hgl W1 hbox hb; have L1 := Aside0.mk hbox; have B1 := Aside0.mk hb; clear hbox hb hgl)
      | ((with_reducible refine gate_dst (N := 4) rfl ?_); refine box_event ?hg (N := 4) ?hd (cs := #[.int .i64 a, .int .i64 b]) (t := 51) ?hr ?_; (case hd => rfl); (case hg => rfl); (case hr => first | (go_simp; done) | (go_simp; rfl)); intro ga hga W2 hbox hb; have A2 := Aside0.mk hbox; have L2 := Aside0.mk (blk_below L1.out hb); have B2 := Aside0.mk (below_step B1.out hb); have l1 : W2.cell? ⟨gl, 1, none⟩ = some (.int .i64 l.sg) := (blk_cell L2.out 1).trans rfl; clear hbox hb hga))
    go_ret
    exact ⟨rfl, B2.out⟩
  rw [if_neg c0] at h
  have c0b : (l.sg == 0) = false := beq_eq_false_iff_ne.2 c0
  by_cases c1 : l.sg = 1
  · rw [if_pos c1] at h
    cases h
    obtain ⟨sg, hsg⟩ : ∃ sg, l.sg = sg := ⟨_, rfl⟩
    rw [hsg] at c0b c1 ⊢
    subst c1
    clear c0 c0b hsg
    go_enter Try.func59, Try.ntmps59
    go_wp2_with (first
      | ((with_reducible refine gate_dst (N := 3) rfl ?_); refine box_event ?hg (N := 3) ?hd (cs := #[.int .i64 l.ph, .int .i64 1, .int .i64 l.sk, .int .i64 l.wd]) (t := 33) ?hr ?_; (case hd => rfl); (case hg => rfl); (case hr => first | (go_simp; done) | (go_simp; rfl)); intro gl hgl W1 hbox hb; have L1 := Aside0.mk hbox; have B1 := Aside0.mk hb; clear hbox hb hgl)
      | ((with_reducible refine gate_dst (N := 4) rfl ?_); refine box_event ?hg (N := 4) ?hd (cs := #[.int .i64 a, .int .i64 b]) (t := 51) ?hr ?_; (case hd => rfl); (case hg => rfl); (case hr => first | (go_simp; done) | (go_simp; rfl)); intro ga hga W2 hbox hb; have A2 := Aside0.mk hbox; have L2 := Aside0.mk (blk_below L1.out hb); have B2 := Aside0.mk (below_step B1.out hb); have l1 : W2.cell? ⟨gl, 1, none⟩ = some (.int .i64 1) := (blk_cell L2.out 1).trans rfl; have a0 : W2.cell? ⟨ga, 0, none⟩ = some (.int .i64 a) := (blk_cell A2.out 0).trans rfl; have a1 : W2.cell? ⟨ga, 1, none⟩ = some (.int .i64 b) := (blk_cell A2.out 1).trans rfl; clear hbox hb hga))
    go_ret
    exact ⟨rfl, B2.out⟩
  rw [if_neg c1] at h
  by_cases c2 : l.sg = 2
  · rw [if_pos c2] at h
    cases h
    obtain ⟨sg, hsg⟩ : ∃ sg, l.sg = sg := ⟨_, rfl⟩
    rw [hsg] at c0b c2 ⊢
    subst c2
    clear c0 c0b hsg c1
    go_enter Try.func59, Try.ntmps59
    go_wp2_with (first
      | ((with_reducible refine gate_dst (N := 3) rfl ?_); refine box_event ?hg (N := 3) ?hd (cs := #[.int .i64 l.ph, .int .i64 2, .int .i64 l.sk, .int .i64 l.wd]) (t := 33) ?hr ?_; (case hd => rfl); (case hg => rfl); (case hr => first | (go_simp; done) | (go_simp; rfl)); intro gl hgl W1 hbox hb; have L1 := Aside0.mk hbox; have B1 := Aside0.mk hb; clear hbox hb hgl)
      | ((with_reducible refine gate_dst (N := 4) rfl ?_); refine box_event ?hg (N := 4) ?hd (cs := #[.int .i64 a, .int .i64 b]) (t := 51) ?hr ?_; (case hd => rfl); (case hg => rfl); (case hr => first | (go_simp; done) | (go_simp; rfl)); intro ga hga W2 hbox hb; have A2 := Aside0.mk hbox; have L2 := Aside0.mk (blk_below L1.out hb); have B2 := Aside0.mk (below_step B1.out hb); have l1 : W2.cell? ⟨gl, 1, none⟩ = some (.int .i64 2) := (blk_cell L2.out 1).trans rfl; have a0 : W2.cell? ⟨ga, 0, none⟩ = some (.int .i64 a) := (blk_cell A2.out 0).trans rfl; have a1 : W2.cell? ⟨ga, 1, none⟩ = some (.int .i64 b) := (blk_cell A2.out 1).trans rfl; clear hbox hb hga))
    go_ret
    exact ⟨rfl, B2.out⟩
  rw [if_neg c2] at h
  cases h
set_option maxHeartbeats 6400000 in
set_option maxRecDepth 100000 in
theorem moveOn.calls (a b set : Int) (w : World) :
    Calls Try.prog 61 #[.agg #[.int .i64 a, .int .i64 b], .int .i64 set] w fun e w' => e = .returned (.agg #[.int .i64 set, .int .i64 a]) ∧ Below w.heap.size w w' := by
  have HU := Aside0.mk Try.underlying51
  go_enter Try.func61, Try.ntmps61
  go_wp2_with (first
    | ((with_reducible refine gate_dst (N := 2) rfl ?_); refine box_event ?hg (N := 2) ?hd (cs := #[.int .i64 a, .int .i64 b]) (t := 51) ?hr ?_; (case hd => rfl); (case hg => rfl); (case hr => first | (go_simp; done) | (go_simp; rfl)); intro ga hga W1 hbox hb; have A1 := Aside0.mk hbox; have B1 := Aside0.mk hb; have GA := Aside0.mk hga; clear hbox hb hga)
    | ((with_reducible refine gate_dst (N := 4) rfl ?_); refine box_event ?hg (N := 4) ?hd (cs := #[.int .i64 0, .int .i64 0]) (t := 51) ?hr ?_; (case hd => rfl); (case hg => rfl); (case hr => first | (go_simp; done) | (go_simp; rfl)); intro gr hgr W2 hbox hb; have R2 := Aside0.mk hbox; have A2 := Aside0.mk (blk_below A1.out hb); have B2 := Aside0.mk (below_step B1.out hb); have GR := Aside0.mk (show gr ≠ ga ∧ w.heap.size ≤ gr ∧ w.heap.size ≤ ga by (have h1_ := GA.out; have h2_ := blk_lt A1.out; have h3_ := B1.out.size; omega)); have a0 : W2.cell? ⟨ga, 0, none⟩ = some (.int .i64 a) := (blk_cell A2.out 0).trans rfl; have y0 := blk_frozen A2.out 0; have y1 := blk_frozen A2.out 1; clear hbox hb hgr))
  go_loopw [5] (fun v5 wp => ∃ k : Nat, k ≤ 1 ∧ v5 = .int .i64 (k : Int) ∧ Aside0 (wp.heap[ga]? = some (.cells #[.int .i64 a, .int .i64 (if k = 1 then b else a)] 51 (0, 0))) ∧ Aside0 (wp.heap[gr]? = some (.cells #[.int .i64 0, .int .i64 0] 51 (0, 0))) ∧ Aside0 (Below w.heap.size w wp)) (fun v5 _ => (intOf v5).toNat)
  case atStart => exact ⟨1, Nat.le_refl _, rfl, ⟨A2.out⟩, R2, B2⟩
  case round =>
    clear a0 y0 y1 B2 A2 R2 A1 B1
    obtain ⟨k, hk, rfl, A3, R3, B3⟩ := hrel
    rcases (show k = 1 ∨ k = 0 by omega) with rfl | rfl
    · have A4 := Aside0.mk (show wr.heap[ga]? = some (.cells #[.int .i64 a, .int .i64 b] 51 (0, 0)) from A3.out)
      have a0 : wr.cell? ⟨ga, 0, none⟩ = some (.int .i64 a) := (blk_cell A4.out 0).trans rfl
      have a1 : wr.cell? ⟨ga, 1, none⟩ = some (.int .i64 b) := (blk_cell A4.out 1).trans rfl
      have y1 := blk_frozen A4.out 1
      clear A3
      go_wp2
      exact ⟨⟨0, by omega, rfl, ⟨blk_put A4.out 1 _ rfl⟩, ⟨(KB.set (KB.refl ga wr) 1 _).keep R3.out GR.out.1⟩, ⟨(KB.set (KB.refl ga wr) 1 _).low B3.out GR.out.2.2⟩⟩, by simp [intOf]⟩
    · have A4 := Aside0.mk (show wr.heap[ga]? = some (.cells #[.int .i64 a, .int .i64 a] 51 (0, 0)) from A3.out)
      have a0 : wr.cell? ⟨ga, 0, none⟩ = some (.int .i64 a) := (blk_cell A4.out 0).trans rfl
      have y0 := blk_frozen A4.out 0
      have gne : gr ≠ ga := GR.out.1
      have gne2 : ga ≠ gr := Ne.symm GR.out.1
      have r0 : wr.cell? ⟨gr, 0, none⟩ = some (.int .i64 0) := (blk_cell R3.out 0).trans rfl
      have r1 : wr.cell? ⟨gr, 1, none⟩ = some (.int .i64 0) := (blk_cell R3.out 1).trans rfl
      have z0 := blk_frozen R3.out 0
      have z1 := blk_frozen R3.out 1
      clear A3
      go_wp2_with (first
        | ((with_reducible refine gate_dst (N := 18) rfl ?_); refine load_row_event rfl 51 (.tmp 2) rfl ga rfl 51 #[.int .i64 set, .int .i64 a] _ (blk_put A4.out 0 _ rfl) HU.out rfl (by kernel_rfl) ?_))
      refine bodyPost_ret (results_cell_row rfl _ _ gr 51 #[.int .i64 set, .int .i64 a] (0, 0) _ rfl (blk_put (blk_put ((KB.set (KB.refl ga wr) 0 _).keep R3.out GR.out.1) 0 _ rfl) 1 _ rfl) HU.out rfl (by kernel_rfl)) rfl ?_
      exact ⟨rfl, (KB.set (KB.set (KB.refl gr _) 0 _) 1 _).low ((KB.set (KB.refl ga wr) 0 _).low B3.out GR.out.2.2) GR.out.2.1⟩
end Go.Proofs.Ytgmnbpdfdagniaa.A
/- The program's link: a word is sent. No conditions. -/
namespace Go.Proofs.Ytgmnbpdfdagniaa.A
open Go.RowKit Go.Proofs.YtgmnbpdfdagniaaW.PrintWords Go.Proofs.YtgmnbpdfdagniaaW.PrintLast Go.Proofs.YtgmnbpdfdagniaaW.PrintMore
set_option linter.unusedVariables false
set_option linter.unusedSimpArgs false
theorem n_cells {w : World} {g : Nat} {x : LN} (h : w.heap[g]? = some (boxN x)) : w.cell? ⟨g, 0, none⟩ = some (.int .i64 x.sent) ∧ w.cell? ⟨g, 1, none⟩ = some (.int .i64 x.req) ∧ w.cell? ⟨g, 2, none⟩ = some (.int .i64 x.ans) ∧ w.cell? ⟨g, 3, none⟩ = some (.int .i64 x.plc) ∧ w.cell? ⟨g, 4, none⟩ = some (.bool x.ow) ∧ w.cell? ⟨g, 5, none⟩ = some (.int .i64 x.word) ∧ w.cell? ⟨g, 6, none⟩ = some (.int .i64 x.gone) ∧ w.cell? ⟨g, 7, none⟩ = some (.int .i64 x.s0) ∧ w.cell? ⟨g, 8, none⟩ = some (.int .i64 x.s1) ∧ w.cell? ⟨g, 9, none⟩ = some (.int .i64 x.r0) ∧ w.cell? ⟨g, 10, none⟩ = some (.int .i64 x.r1) ∧ w.cell? ⟨g, 11, none⟩ = some (.int .i64 x.taken) ∧ w.cell? ⟨g, 12, none⟩ = some (.int .u8 x.last) ∧ w.cell? ⟨g, 13, none⟩ = some (.int .i64 x.run) := ⟨(blk_cell h 0).trans rfl, (blk_cell h 1).trans rfl, (blk_cell h 2).trans rfl, (blk_cell h 3).trans rfl, (blk_cell h 4).trans rfl, (blk_cell h 5).trans rfl, (blk_cell h 6).trans rfl, (blk_cell h 7).trans rfl, (blk_cell h 8).trans rfl, (blk_cell h 9).trans rfl, (blk_cell h 10).trans rfl, (blk_cell h 11).trans rfl, (blk_cell h 12).trans rfl, (blk_cell h 13).trans rfl⟩
theorem n_frozen {w : World} {g : Nat} {x : LN} (h : w.heap[g]? = some (boxN x)) : w.frozen? ⟨g, 0, none⟩ = false ∧ w.frozen? ⟨g, 1, none⟩ = false ∧ w.frozen? ⟨g, 2, none⟩ = false ∧ w.frozen? ⟨g, 3, none⟩ = false ∧ w.frozen? ⟨g, 4, none⟩ = false ∧ w.frozen? ⟨g, 5, none⟩ = false ∧ w.frozen? ⟨g, 6, none⟩ = false ∧ w.frozen? ⟨g, 7, none⟩ = false ∧ w.frozen? ⟨g, 8, none⟩ = false ∧ w.frozen? ⟨g, 9, none⟩ = false ∧ w.frozen? ⟨g, 10, none⟩ = false ∧ w.frozen? ⟨g, 11, none⟩ = false ∧ w.frozen? ⟨g, 12, none⟩ = false ∧ w.frozen? ⟨g, 13, none⟩ = false := ⟨blk_frozen h 0, blk_frozen h 1, blk_frozen h 2, blk_frozen h 3, blk_frozen h 4, blk_frozen h 5, blk_frozen h 6, blk_frozen h 7, blk_frozen h 8, blk_frozen h 9, blk_frozen h 10, blk_frozen h 11, blk_frozen h 12, blk_frozen h 13⟩
def sendN (l : Lnk) (x : LN) : LN := if l.sk = 0 then { x with plc := x.sent, sent := wrap64 (x.sent + 1) } else { x with ow := true, word := x.sent, gone := 0, sent := wrap64 (x.sent + 1) }
set_option maxHeartbeats 6400000 in
set_option maxRecDepth 100000 in
theorem sendN.calls (gx : Nat) (l : Lnk) (x : LN) (w : World) (hx : w.heap[gx]? = some (boxN x)) :
    Calls Try.prog 60 #[.pointer (some ⟨gx, 0, none⟩), .agg #[.int .i64 l.ph, .int .i64 l.sg, .int .i64 l.sk, .int .i64 l.wd]] w fun e w' => e = .returned (.tuple #[]) ∧ w'.heap[gx]? = some (boxN (sendN l x)) ∧ KB gx w w' := by
  have HX := Aside0.mk hx
  clear hx
  unfold sendN
  by_cases c0 : l.sk = 0
  · rw [if_pos c0]
    have c0b : (l.sk == 0) = true := beq_iff_eq.2 c0
    clear c0
    go_enter Try.func60, Try.ntmps60
    go_wp2_with (first
      | ((with_reducible refine gate_dst (N := 3) rfl ?_); refine box_event ?hg (N := 3) ?hd (cs := #[.int .i64 l.ph, .int .i64 l.sg, .int .i64 l.sk, .int .i64 l.wd]) (t := 33) ?hr ?_; (case hd => rfl); (case hg => rfl); (case hr => first | (go_simp; done) | (go_simp; rfl)); intro gl hgl W1 hbox hb; have X1 := Aside0.mk (blk_below HX.out hb); have NE := Aside0.mk (show gl ≠ gx by (have h1_ := blk_lt HX.out; omega)); have L1 := Aside0.mk (show W1.heap[gl]? = some (boxL l) from hbox); have B1 := Aside0.mk hb; obtain ⟨l0, l1, l2, l3⟩ := l_cells L1.out; obtain ⟨n0, n1, n2, n3, n4, n5, n6, n7, n8, n9, n10, n11, n12, n13⟩ := n_cells X1.out; obtain ⟨y0, y1, y2, y3, y4, y5, y6, y7, y8, y9, y10, y11, y12, y13⟩ := n_frozen X1.out; clear hbox hb hgl))
    first | go_end0 | ((try simp only [Exit.inBlock, Exit.then]); refine bodyPost_ret (results_none rfl _ _ _) rfl ?_)
    exact ⟨rfl, blk_put (blk_put X1.out 3 _ rfl) 0 _ rfl, KB.set (KB.set (KB.of_below B1.out) 3 _) 0 _⟩
  · rw [if_neg c0]
    have c0b : (l.sk == 0) = false := beq_eq_false_iff_ne.2 c0
    clear c0
    go_enter Try.func60, Try.ntmps60
    go_wp2_with (first
      | ((with_reducible refine gate_dst (N := 3) rfl ?_); refine box_event ?hg (N := 3) ?hd (cs := #[.int .i64 l.ph, .int .i64 l.sg, .int .i64 l.sk, .int .i64 l.wd]) (t := 33) ?hr ?_; (case hd => rfl); (case hg => rfl); (case hr => first | (go_simp; done) | (go_simp; rfl)); intro gl hgl W1 hbox hb; have X1 := Aside0.mk (blk_below HX.out hb); have NE := Aside0.mk (show gl ≠ gx by (have h1_ := blk_lt HX.out; omega)); have L1 := Aside0.mk (show W1.heap[gl]? = some (boxL l) from hbox); have B1 := Aside0.mk hb; obtain ⟨l0, l1, l2, l3⟩ := l_cells L1.out; obtain ⟨n0, n1, n2, n3, n4, n5, n6, n7, n8, n9, n10, n11, n12, n13⟩ := n_cells X1.out; obtain ⟨y0, y1, y2, y3, y4, y5, y6, y7, y8, y9, y10, y11, y12, y13⟩ := n_frozen X1.out; clear hbox hb hgl))
    first | go_end0 | ((try simp only [Exit.inBlock, Exit.then]); refine bodyPost_ret (results_none rfl _ _ _) rfl ?_)
    exact ⟨rfl, blk_put (blk_put (blk_put (blk_put X1.out 4 _ rfl) 5 _ rfl) 6 _ rfl) 0 _ rfl, KB.set (KB.set (KB.set (KB.set (KB.of_below B1.out) 4 _) 5 _) 6 _) 0 _⟩
end Go.Proofs.Ytgmnbpdfdagniaa.A
/- The program's link: the first state, and the test for a fault. No conditions. -/
namespace Go.Proofs.Ytgmnbpdfdagniaa.A
open Go.RowKit Go.Proofs.YtgmnbpdfdagniaaW.PrintWords Go.Proofs.YtgmnbpdfdagniaaW.PrintLast Go.Proofs.YtgmnbpdfdagniaaW.PrintMore
set_option linter.unusedVariables false
set_option linter.unusedSimpArgs false
set_option maxHeartbeats 6400000 in
set_option maxRecDepth 100000 in
theorem isFault.calls (x : LN) (b : Bool) (w : World) :
    Calls Try.prog 33 #[.agg #[.int .i64 x.sent, .int .i64 x.req, .int .i64 x.ans, .int .i64 x.plc, .bool x.ow, .int .i64 x.word, .int .i64 x.gone, .int .i64 x.s0, .int .i64 x.s1, .int .i64 x.r0, .int .i64 x.r1, .int .i64 x.taken, .int .u8 x.last, .int .i64 x.run], .bool b] w fun e w' => e = .returned (.bool (!b)) ∧ Below w.heap.size w w' := by
  go_enter Try.func33, Try.ntmps33
  go_wp2_with (first
    | ((with_reducible refine gate_dst (N := 2) rfl ?_); refine box_event ?hg (N := 2) ?hd (cs := #[.int .i64 x.sent, .int .i64 x.req, .int .i64 x.ans, .int .i64 x.plc, .bool x.ow, .int .i64 x.word, .int .i64 x.gone, .int .i64 x.s0, .int .i64 x.s1, .int .i64 x.r0, .int .i64 x.r1, .int .i64 x.taken, .int .u8 x.last, .int .i64 x.run]) (t := 55) ?hr ?_; (case hd => rfl); (case hg => rfl); (case hr => first | (go_simp; done) | (go_simp; rfl)); intro gl hgl W1 hbox hb; have B1 := Aside0.mk hb; clear hbox hb hgl))
  go_ret
  exact ⟨rfl, B1.out⟩
set_option maxHeartbeats 6400000 in
set_option maxRecDepth 100000 in
theorem startOfLink.calls (w : World) :
    Calls Try.prog 41 #[] w fun e w' => e = .returned (.agg #[.int .i64 0, .int .i64 0, .int .i64 0, .int .i64 (-1), .bool false, .int .i64 0, .int .i64 0, .int .i64 0, .int .i64 0, .int .i64 0, .int .i64 0]) ∧ Below w.heap.size w w' := by
  have HU := Aside0.mk Try.underlying53
  go_enter Try.func41, Try.ntmps41
  go_wp2_with (first
    | ((with_reducible refine gate_dst (N := 0) rfl ?_); refine box_event ?hg (N := 0) ?hd (cs := #[.int .i64 0, .int .i64 0, .int .i64 0, .int .i64 0, .bool false, .int .i64 0, .int .i64 0, .int .i64 0, .int .i64 0, .int .i64 0, .int .i64 0]) (t := 53) ?hr ?_; (case hd => rfl); (case hg => rfl); (case hr => first | (go_simp; done) | (go_simp; rfl)); intro gr hgr W1 hbox hb; have X1 := Aside0.mk hbox; have B1 := Aside0.mk hb; have GR := Aside0.mk (show w.heap.size ≤ gr by omega); clear hbox hb hgr)
    | ((with_reducible refine gate_store (t := 53) (p := 0) rfl ?_); refine store_row_event rfl rfl 53 (.tmp 0) (.tmp 1) rfl gr #[.int .i64 0, .int .i64 0, .int .i64 0, .int .i64 (-1), .bool false, .int .i64 0, .int .i64 0, .int .i64 0, .int .i64 0, .int .i64 0, .int .i64 0] rfl rfl 53 _ X1.out (by kernel_rfl) (by first | rfl | kernel_rfl) (by first | rfl | kernel_rfl | simp [Value.oneCell']) ?_; intro w7 hr7 hk7; have R7 := Aside0.mk hr7; have B7 := Aside0.mk (hk7.low B1.out GR.out); clear hr7 hk7))
  refine bodyPost_ret (results_cell_row rfl _ _ gr 53 #[.int .i64 0, .int .i64 0, .int .i64 0, .int .i64 (-1), .bool false, .int .i64 0, .int .i64 0, .int .i64 0, .int .i64 0, .int .i64 0, .int .i64 0] (0, 0) _ rfl R7.out HU.out rfl (by kernel_rfl)) rfl ?_
  exact ⟨rfl, B7.out⟩
end Go.Proofs.Ytgmnbpdfdagniaa.A
/- The program's link: a step of the sender. No conditions. -/
namespace Go.Proofs.Ytgmnbpdfdagniaa.A
open Go.RowKit Go.Proofs.YtgmnbpdfdagniaaW.PrintWords Go.Proofs.YtgmnbpdfdagniaaW.PrintLast Go.Proofs.YtgmnbpdfdagniaaW.PrintMore
set_option linter.unusedVariables false
set_option linter.unusedSimpArgs false
/-- The word on its way comes nearer. -/
def wayN (l : Lnk) (x : LN) : LN := if x.ow = true then (if wrap64 (x.gone + 1) = l.sk then { x with plc := x.word, ow := false, word := 0, gone := 0 } else { x with gone := wrap64 (x.gone + 1) }) else x
def reqN (l : Lnk) (seen : Int) (x : LN) : LN :=
  if l.ph = 2 ∧ seen = x.req ∧ x.sent < l.wd then sendN l { x with req := wrap64 (1 - x.req) }
  else if l.ph = 4 ∧ x.req = 0 ∧ seen = 0 ∧ x.sent < l.wd then sendN l { x with req := 1 }
  else if l.ph = 4 ∧ x.req = 1 ∧ seen = 1 then { x with req := 0 }
  else x
def stepS (l : Lnk) (x : LN) : Option LN := (seesF l x.s0 x.s1 x.ans).bind fun seen => some { reqN l seen (wayN l x) with s0 := x.ans, s1 := x.s0 }
theorem reqN_keep (l : Lnk) (seen : Int) (y : LN) : (reqN l seen y).ans = y.ans ∧ (reqN l seen y).s0 = y.s0 ∧ (reqN l seen y).s1 = y.s1 := by
  unfold reqN sendN
  repeat' split
  all_goals exact ⟨rfl, rfl, rfl⟩
set_option maxHeartbeats 6400000 in
set_option maxRecDepth 100000 in
theorem stepS.calls (gx : Nat) (l : Lnk) (x r : LN) (w : World) (hx : w.heap[gx]? = some (boxN x)) (h : stepS l x = some r) :
    Calls Try.prog 54 #[.pointer (some ⟨gx, 0, none⟩), .agg #[.int .i64 l.ph, .int .i64 l.sg, .int .i64 l.sk, .int .i64 l.wd]] w fun e w' => e = .returned (.tuple #[]) ∧ w'.heap[gx]? = some (boxN r) ∧ KB gx w w' := by
  have HX := Aside0.mk hx
  clear hx
  unfold stepS at h
  obtain ⟨seen, hse, h⟩ := Option.bind_eq_some_iff.1 h
  obtain ⟨y, hy⟩ : ∃ y, wayN l x = y := ⟨_, rfl⟩
  have e2 : x.ans = y.ans := by rw [← hy]; unfold wayN; split <;> (try split) <;> rfl
  have e7 : x.s0 = y.s0 := by rw [← hy]; unfold wayN; split <;> (try split) <;> rfl
  have e8 : x.s1 = y.s1 := by rw [← hy]; unfold wayN; split <;> (try split) <;> rfl
  rw [hy, e2, e7] at h
  rw [e2, e7, e8] at hse
  have HSE := Aside0.mk hse
  have H := Aside0.mk h
  have HY := Aside0.mk hy
  clear h hse hy e2 e7 e8
  go_enter Try.func54, Try.ntmps54
  go_upto_if 8 with (first
    | ((with_reducible refine gate_dst (N := 3) rfl ?_); refine box_event ?hg (N := 3) ?hd (cs := #[.int .i64 l.ph, .int .i64 l.sg, .int .i64 l.sk, .int .i64 l.wd]) (t := 33) ?hr ?_; (case hd => rfl); (case hg => rfl); (case hr => first | (go_simp; done) | (go_simp; rfl)); intro gl hgl W1 hbox hb; have X1 := Aside0.mk (blk_below HX.out hb); have NE := Aside0.mk (show gl ≠ gx by (have h1_ := blk_lt HX.out; omega)); have L1 := Aside0.mk (show W1.heap[gl]? = some (boxL l) from hbox); have B1 := Aside0.mk hb; obtain ⟨l0, l1, l2, l3⟩ := l_cells L1.out; obtain ⟨n0, n1, n2, n3, n4, n5, n6, n7, n8, n9, n10, n11, n12, n13⟩ := n_cells X1.out; obtain ⟨y0, y1, y2, y3, y4, y5, y6, y7, y8, y9, y10, y11, y12, y13⟩ := n_frozen X1.out; clear hbox hb hgl))
  go_cut [] from 8 (fun wc => Aside0 (wc.heap[gx]? = some (boxN y)) ∧ Aside0 (wc.heap[gl]? = some (boxL l)) ∧ Aside0 (KB gx w wc))
  case first =>
    by_cases f0 : x.ow = true
    · rw [f0]
      by_cases f1 : wrap64 (x.gone + 1) = l.sk
      · have f1b : (wrap64 (x.gone + 1) == l.sk) = true := beq_iff_eq.2 f1
        have hnr : wayN l x = { x with plc := x.word, ow := false, word := 0, gone := 0 } := by unfold wayN; rw [if_pos f0, if_pos f1]
        clear f0 f1
        go_wp2
        go_quiet (fail)
        go_wp2
        go_meet
        case rel => exact ⟨⟨by rw [← HY.out, hnr]; exact blk_put (blk_put (blk_put (blk_put (blk_put X1.out 6 (.int .i64 (wrap64 (x.gone + 1))) rfl) 3 (.int .i64 x.word) rfl) 4 (.bool false) rfl) 5 (.int .i64 0) rfl) 6 (.int .i64 0) rfl⟩, ⟨(KB.set (KB.set (KB.set (KB.set (KB.set (KB.refl gx _) 6 (.int .i64 (wrap64 (x.gone + 1)))) 3 (.int .i64 x.word)) 4 (.bool false)) 5 (.int .i64 0)) 6 (.int .i64 0)).keep L1.out NE.out⟩, ⟨KB.set (KB.set (KB.set (KB.set (KB.drewN (KB.set (KB.of_below B1.out) 6 (.int .i64 (wrap64 (x.gone + 1)))) _) 3 (.int .i64 x.word)) 4 (.bool false)) 5 (.int .i64 0)) 6 (.int .i64 0)⟩⟩
      · have f1b : (wrap64 (x.gone + 1) == l.sk) = false := beq_eq_false_iff_ne.2 f1
        have hnr : wayN l x = { x with gone := wrap64 (x.gone + 1) } := by unfold wayN; rw [if_pos f0, if_neg f1]
        clear f0 f1
        go_wp2
        go_quiet (fail)
        go_wp2
        go_meet
        case rel => exact ⟨⟨by rw [← HY.out, hnr]; exact blk_put X1.out 6 _ rfl⟩, ⟨(KB.set (KB.refl gx _) 6 _).keep L1.out NE.out⟩, ⟨KB.drewN (KB.set (KB.of_below B1.out) 6 _) _⟩⟩
    · have f0b : x.ow = false := Bool.eq_false_iff.2 f0
      have hnr : wayN l x = x := by unfold wayN; rw [if_neg f0]
      rw [f0b]
      clear f0
      go_wp2
      go_meet
      case rel => exact ⟨⟨by rw [← HY.out, hnr]; exact X1.out⟩, L1, ⟨KB.of_below B1.out⟩⟩
  case rest =>
    clear l0 l1 l2 l3 n0 n1 n2 n3 n4 n5 n6 n7 n8 n9 n10 n11 n12 n13 y0 y1 y2 y3 y4 y5 y6 y7 y8 y9 y10 y11 y12 y13
    obtain ⟨X2, L2, K2⟩ := hcut
    obtain ⟨l0, l1, l2, l3⟩ := l_cells L2.out
    obtain ⟨n0, n1, n2, n3, n4, n5, n6, n7, n8, n9, n10, n11, n12, n13⟩ := n_cells X2.out
    obtain ⟨y0, y1, y2, y3, y4, y5, y6, y7, y8, y9, y10, y11, y12, y13⟩ := n_frozen X2.out
    go_wp2
    go_region_held3 (fun w' => w'.cell? ⟨gl, 0, none⟩ = some (.int .i64 l.ph) ∧ w'.cell? ⟨gl, 1, none⟩ = some (.int .i64 l.sg) ∧ w'.cell? ⟨gl, 2, none⟩ = some (.int .i64 l.sk) ∧ w'.cell? ⟨gl, 3, none⟩ = some (.int .i64 l.wd) ∧ w'.cell? ⟨gx, 2, none⟩ = some (.int .i64 y.ans) ∧ w'.cell? ⟨gx, 7, none⟩ = some (.int .i64 y.s0) ∧ w'.cell? ⟨gx, 8, none⟩ = some (.int .i64 y.s1))
      (first
        | exact ⟨l0, l1, l2, l3, n2, n7, n8⟩
        | exact ⟨(blk_cell L3.out 0).trans rfl, (blk_cell L3.out 1).trans rfl, (blk_cell L3.out 2).trans rfl, (blk_cell L3.out 3).trans rfl, (blk_cell X3.out 2).trans rfl, (blk_cell X3.out 7).trans rfl, (blk_cell X3.out 8).trans rfl⟩
        | go_keep)
      (first
        | (go_at_call 59; (with_reducible refine (seesF.calls l y.s0 y.s1 y.ans seen _ HSE.out).mono ?_); rintro e v3 ⟨rfl, hB⟩; have X3 := Aside0.mk (blk_below (o := boxN y) (w := wc.drew) X2.out hB); have L3 := Aside0.mk (blk_below (o := boxL l) (w := wc.drew) L2.out hB); have K3 := Aside0.mk (KB.below (b := wc.drew) (KB.drew K2.out) hB); clear hB))
    clear l0 l1 l2 l3 n0 n1 n2 n3 n4 n5 n6 n7 n8 n9 n10 n11 n12 n13 y0 y1 y2 y3 y4 y5 y6 y7 y8 y9 y10 y11 y12 y13
    obtain ⟨l0, l1, l2, l3⟩ := l_cells L3.out
    obtain ⟨n0, n1, n2, n3, n4, n5, n6, n7, n8, n9, n10, n11, n12, n13⟩ := n_cells X3.out
    obtain ⟨y0, y1, y2, y3, y4, y5, y6, y7, y8, y9, y10, y11, y12, y13⟩ := n_frozen X3.out
    have ne := NE.out
    have ne' : gx ≠ gl := Ne.symm NE.out
    go_step
    rename_i aK hH
    refine aK _ _ ?_
    clear aK hH
    (try go_step)

    go_cut [4] from 49 (fun v4 wd => v4 = .int .i64 seen ∧ Aside0 (wd.heap[gx]? = some (boxN (reqN l seen y))) ∧ Aside0 (wd.heap[gl]? = some (boxL l)) ∧ Aside0 (KB gx w wd))
    case first =>
      by_cases p2 : l.ph = 2
      · have p2b : (l.ph == 2) = true := beq_iff_eq.2 p2
        have p4b : (l.ph == 4) = false := by rw [p2]; rfl
        by_cases q : seen = y.req
        · have qb : (seen == y.req) = true := beq_iff_eq.2 q
          by_cases r : y.sent < l.wd
          · have rb : decide (y.sent < l.wd) = true := decide_eq_true r
            have hnr : reqN l seen y = sendN l { y with req := wrap64 (1 - y.req) } := by unfold reqN; simp [*]
            have HNR := Aside0.mk hnr
            clear hnr p2 q r
            go_wp2
            go_quiet (fail)
            go_wp2_with (first
              | (go_at_call 60; (with_reducible refine (sendN.calls gx l { y with req := wrap64 (1 - y.req) } _ ?hx).mono ?_); (case hx => exact blk_put X3.out 1 (.int .i64 (wrap64 (1 - y.req))) rfl); rintro e w7 ⟨rfl, hx7, hk7⟩; have X7 := Aside0.mk hx7; have L7 := Aside0.mk (hk7.keep ((KB.set (KB.refl gx _) 1 (.int .i64 (wrap64 (1 - y.req)))).keep L3.out NE.out) NE.out); have K7 := Aside0.mk ((KB.set (KB.drewN K3.out _) 1 (.int .i64 (wrap64 (1 - y.req)))).trans hk7); clear hx7 hk7))
            go_meet
            case rel => exact ⟨rfl, ⟨by rw [HNR.out]; exact X7.out⟩, L7, K7⟩
          · have rb : decide (y.sent < l.wd) = false := decide_eq_false r
            have hnr : reqN l seen y = y := by unfold reqN; simp [*]
            have HNR := Aside0.mk hnr
            clear hnr p2 q r
            go_wp2
            go_quiet (fail)
            go_wp2
            go_quiet (fail)
            go_wp2
            go_meet
            case rel => exact ⟨rfl, ⟨by rw [HNR.out]; exact X3.out⟩, ⟨L3.out⟩, ⟨KB.drewN K3.out _⟩⟩
        · have qb : (seen == y.req) = false := beq_eq_false_iff_ne.2 q
          have hnr : reqN l seen y = y := by unfold reqN; simp [*]
          have HNR := Aside0.mk hnr
          clear hnr p2 q
          go_wp2
          go_quiet (fail)
          go_wp2
          go_quiet (fail)
          go_wp2
          go_meet
          case rel => exact ⟨rfl, ⟨by rw [HNR.out]; exact X3.out⟩, ⟨L3.out⟩, ⟨KB.drewN K3.out _⟩⟩
      · have p2b : (l.ph == 2) = false := beq_eq_false_iff_ne.2 p2
        by_cases p4 : l.ph = 4
        · have p4b : (l.ph == 4) = true := beq_iff_eq.2 p4
          by_cases q0 : y.req = 0
          · have q0b : (y.req == 0) = true := beq_iff_eq.2 q0
            have q1b : (y.req == 1) = false := by rw [q0]; rfl
            by_cases s0 : seen = 0
            · have s0b : (seen == 0) = true := beq_iff_eq.2 s0
              by_cases r : y.sent < l.wd
              · have rb : decide (y.sent < l.wd) = true := decide_eq_true r
                have hnr : reqN l seen y = sendN l { y with req := 1 } := by unfold reqN; simp [*]
                have HNR := Aside0.mk hnr
                clear hnr p2 p4 q0 s0 r
                go_wp2
                go_quiet (fail)
                go_wp2
                go_quiet (fail)
                go_wp2_with (first
                  | (go_at_call 60; (with_reducible refine (sendN.calls gx l { y with req := 1 } _ ?hx).mono ?_); (case hx => exact blk_put X3.out 1 (.int .i64 (1)) rfl); rintro e w7 ⟨rfl, hx7, hk7⟩; have X7 := Aside0.mk hx7; have L7 := Aside0.mk (hk7.keep ((KB.set (KB.refl gx _) 1 (.int .i64 (1))).keep L3.out NE.out) NE.out); have K7 := Aside0.mk ((KB.set (KB.drewN K3.out _) 1 (.int .i64 (1))).trans hk7); clear hx7 hk7))
                go_meet
                case rel => exact ⟨rfl, ⟨by rw [HNR.out]; exact X7.out⟩, L7, K7⟩
              · have rb : decide (y.sent < l.wd) = false := decide_eq_false r
                have hnr : reqN l seen y = y := by unfold reqN; simp [*]
                have HNR := Aside0.mk hnr
                clear hnr p2 p4 q0 s0 r
                go_wp2
                go_quiet (fail)
                go_wp2
                go_quiet (fail)
                go_wp2
                go_meet
                case rel => exact ⟨rfl, ⟨by rw [HNR.out]; exact X3.out⟩, ⟨L3.out⟩, ⟨KB.drewN K3.out _⟩⟩
            · have s0b : (seen == 0) = false := beq_eq_false_iff_ne.2 s0
              have hnr : reqN l seen y = y := by unfold reqN; simp [*]
              have HNR := Aside0.mk hnr
              clear hnr p2 p4 q0 s0
              go_wp2
              go_quiet (fail)
              go_wp2
              go_quiet (fail)
              go_wp2
              go_meet
              case rel => exact ⟨rfl, ⟨by rw [HNR.out]; exact X3.out⟩, ⟨L3.out⟩, ⟨KB.drewN K3.out _⟩⟩
          · have q0b : (y.req == 0) = false := beq_eq_false_iff_ne.2 q0
            by_cases q1 : y.req = 1
            · have q1b : (y.req == 1) = true := beq_iff_eq.2 q1
              by_cases s1 : seen = 1
              · have s1b : (seen == 1) = true := beq_iff_eq.2 s1
                have hnr : reqN l seen y = { y with req := 0 } := by unfold reqN; simp [*]
                have HNR := Aside0.mk hnr
                clear hnr p2 p4 q0 q1 s1
                go_wp2
                go_quiet (fail)
                go_wp2
                go_quiet (fail)
                go_wp2
                go_meet
                case rel => exact ⟨rfl, ⟨by rw [HNR.out]; exact blk_put X3.out 1 _ rfl⟩, ⟨(KB.set (KB.refl gx _) 1 _).keep L3.out NE.out⟩, ⟨KB.set (KB.drewN K3.out _) 1 _⟩⟩
              · have s1b : (seen == 1) = false := beq_eq_false_iff_ne.2 s1
                have hnr : reqN l seen y = y := by unfold reqN; simp [*]
                have HNR := Aside0.mk hnr
                clear hnr p2 p4 q0 q1 s1
                go_wp2
                go_quiet (fail)
                go_wp2
                go_quiet (fail)
                go_wp2
                go_meet
                case rel => exact ⟨rfl, ⟨by rw [HNR.out]; exact X3.out⟩, ⟨L3.out⟩, ⟨KB.drewN K3.out _⟩⟩
            · have q1b : (y.req == 1) = false := beq_eq_false_iff_ne.2 q1
              have hnr : reqN l seen y = y := by unfold reqN; simp [*]
              have HNR := Aside0.mk hnr
              clear hnr p2 p4 q0 q1
              go_wp2
              go_quiet (fail)
              go_wp2
              go_quiet (fail)
              go_wp2
              go_meet
              case rel => exact ⟨rfl, ⟨by rw [HNR.out]; exact X3.out⟩, ⟨L3.out⟩, ⟨KB.drewN K3.out _⟩⟩
        · have p4b : (l.ph == 4) = false := beq_eq_false_iff_ne.2 p4
          have hnr : reqN l seen y = y := by unfold reqN; simp [*]
          have HNR := Aside0.mk hnr
          clear hnr p2 p4
          go_wp2
          go_quiet (fail)
          go_wp2
          go_quiet (fail)
          go_wp2
          go_meet
          case rel => exact ⟨rfl, ⟨by rw [HNR.out]; exact X3.out⟩, ⟨L3.out⟩, ⟨KB.drewN K3.out _⟩⟩
    case rest =>
      obtain ⟨rfl, X4, L4, K4⟩ := hcut
      clear l0 l1 l2 l3 n0 n1 n2 n3 n4 n5 n6 n7 n8 n9 n10 n11 n12 n13 y0 y1 y2 y3 y4 y5 y6 y7 y8 y9 y10 y11 y12 y13
      have hr := Option.some.inj H.out
      have hk := reqN_keep l seen y
      obtain ⟨q, hq⟩ : ∃ q, reqN l seen y = q := ⟨_, rfl⟩
      rw [hq, ← hk.1, ← hk.2.1, hq] at hr
      rw [hq] at X4
      have HR := Aside0.mk hr
      clear hr hk hq
      have X5 := Aside0.mk (show wc.drew.heap[gx]? = some (boxN q) from X4.out)
      obtain ⟨n0, n1, n2, n3, n4, n5, n6, n7, n8, n9, n10, n11, n12, n13⟩ := n_cells X4.out
      obtain ⟨y0, y1, y2, y3, y4, y5, y6, y7, y8, y9, y10, y11, y12, y13⟩ := n_frozen X4.out
      go_upto_region 14 with (fail)
      go_region_law (first
        | (go_simp; go_at_call 61; (with_reducible refine (moveOn.calls q.s0 q.s1 q.ans _).mono ?_); rintro e w7 ⟨rfl, hB⟩; have X7 := Aside0.mk (blk_below (w := wc.drew) X5.out hB); have K7 := Aside0.mk (KB.below (b := wc.drew) (KB.drew K4.out) hB); clear n0 n1 n2 n3 n4 n5 n6 n7 n8 n9 n10 n11 n12 n13 y0 y1 y2 y3 y4 y5 y6 y7 y8 y9 y10 y11 y12 y13; obtain ⟨n0, n1, n2, n3, n4, n5, n6, n7, n8, n9, n10, n11, n12, n13⟩ := n_cells X7.out; obtain ⟨y0, y1, y2, y3, y4, y5, y6, y7, y8, y9, y10, y11, y12, y13⟩ := n_frozen X7.out; clear hB))
      all_goals try go_wp2
      all_goals first | go_end0 | ((try simp only [Exit.inBlock, Exit.then]); refine bodyPost_ret (results_none rfl _ _ _) rfl ?_)
      all_goals exact ⟨rfl, by rw [← HR.out]; exact blk_put (blk_put X7.out 7 _ rfl) 8 _ rfl, KB.set (KB.set K7.out 7 _) 8 _⟩
end Go.Proofs.Ytgmnbpdfdagniaa.A
/- The program's link: a step of the receiver. No conditions. -/
namespace Go.Proofs.Ytgmnbpdfdagniaa.A
open Go.RowKit Go.Proofs.YtgmnbpdfdagniaaW.PrintWords Go.Proofs.YtgmnbpdfdagniaaW.PrintLast Go.Proofs.YtgmnbpdfdagniaaW.PrintMore
set_option linter.unusedVariables false
set_option linter.unusedSimpArgs false
def stepR (l : Lnk) (x : LN) : Option (LN × Int × Bool) :=
  (seesF l x.r0 x.r1 x.req).bind fun seen =>
  if seen = x.ans then some ({ x with r0 := x.req, r1 := x.r0 }, x.plc, false)
  else some ({ x with ans := seen, r0 := x.req, r1 := x.r0 }, x.plc, l.ph == 2 || seen == 1)
set_option maxHeartbeats 6400000 in
set_option maxRecDepth 100000 in
theorem stepR.calls (gx : Nat) (l : Lnk) (x r : LN) (v : Int) (tk : Bool) (w : World) (hx : w.heap[gx]? = some (boxN x)) (h : stepR l x = some (r, v, tk)) :
    Calls Try.prog 55 #[.pointer (some ⟨gx, 0, none⟩), .agg #[.int .i64 l.ph, .int .i64 l.sg, .int .i64 l.sk, .int .i64 l.wd]] w fun e w' => e = .returned (.tuple #[.int .i64 v, .bool tk]) ∧ w'.heap[gx]? = some (boxN r) ∧ KB gx w w' := by
  have HX := Aside0.mk hx
  clear hx
  unfold stepR at h
  obtain ⟨seen, hse, h⟩ := Option.bind_eq_some_iff.1 h
  have HSE := Aside0.mk hse
  have H := Aside0.mk h
  clear h hse
  go_enter Try.func55, Try.ntmps55
  go_wp2_with (first
    | ((with_reducible refine gate_dst (N := 3) rfl ?_); refine box_event ?hg (N := 3) ?hd (cs := #[.int .i64 l.ph, .int .i64 l.sg, .int .i64 l.sk, .int .i64 l.wd]) (t := 33) ?hr ?_; (case hd => rfl); (case hg => rfl); (case hr => first | (go_simp; done) | (go_simp; rfl)); intro gl hgl W1 hbox hb; have X1 := Aside0.mk (blk_below HX.out hb); have NE := Aside0.mk (show gl ≠ gx by (have h1_ := blk_lt HX.out; omega)); have L1 := Aside0.mk (show W1.heap[gl]? = some (boxL l) from hbox); have B1 := Aside0.mk hb; obtain ⟨l0, l1, l2, l3⟩ := l_cells L1.out; obtain ⟨n0, n1, n2, n3, n4, n5, n6, n7, n8, n9, n10, n11, n12, n13⟩ := n_cells X1.out; obtain ⟨y0, y1, y2, y3, y4, y5, y6, y7, y8, y9, y10, y11, y12, y13⟩ := n_frozen X1.out; clear hbox hb hgl))
  go_region_held3 (fun w' => w'.cell? ⟨gl, 0, none⟩ = some (.int .i64 l.ph) ∧ w'.cell? ⟨gl, 1, none⟩ = some (.int .i64 l.sg) ∧ w'.cell? ⟨gl, 2, none⟩ = some (.int .i64 l.sk) ∧ w'.cell? ⟨gl, 3, none⟩ = some (.int .i64 l.wd) ∧ w'.cell? ⟨gx, 1, none⟩ = some (.int .i64 x.req) ∧ w'.cell? ⟨gx, 9, none⟩ = some (.int .i64 x.r0) ∧ w'.cell? ⟨gx, 10, none⟩ = some (.int .i64 x.r1))
    (first
      | exact ⟨l0, l1, l2, l3, n1, n9, n10⟩
      | exact ⟨(blk_cell L3.out 0).trans rfl, (blk_cell L3.out 1).trans rfl, (blk_cell L3.out 2).trans rfl, (blk_cell L3.out 3).trans rfl, (blk_cell X3.out 1).trans rfl, (blk_cell X3.out 9).trans rfl, (blk_cell X3.out 10).trans rfl⟩
      | go_keep)
    (first
      | (go_at_call 59; (with_reducible refine (seesF.calls l x.r0 x.r1 x.req seen _ HSE.out).mono ?_); rintro e v3 ⟨rfl, hB⟩; have X3 := Aside0.mk (blk_below (o := boxN x) (w := W1.drew) X1.out hB); have L3 := Aside0.mk (blk_below (o := boxL l) (w := W1.drew) L1.out hB); have K3 := Aside0.mk (show KB gx w v3 from KB.below (b := W1.drew) (KB.drew (KB.of_below B1.out)) hB); clear hB))
  clear l0 l1 l2 l3 n0 n1 n2 n3 n4 n5 n6 n7 n8 n9 n10 n11 n12 n13 y0 y1 y2 y3 y4 y5 y6 y7 y8 y9 y10 y11 y12 y13
  obtain ⟨l0, l1, l2, l3⟩ := l_cells L3.out
  obtain ⟨n0, n1, n2, n3, n4, n5, n6, n7, n8, n9, n10, n11, n12, n13⟩ := n_cells X3.out
  obtain ⟨y0, y1, y2, y3, y4, y5, y6, y7, y8, y9, y10, y11, y12, y13⟩ := n_frozen X3.out
  have ne := NE.out
  have ne' : gx ≠ gl := Ne.symm NE.out
  have hr := H.out
  by_cases c0 : seen = x.ans
  · rw [if_pos c0] at hr
    have c0b : (seen != x.ans) = false := bne_eq_false_iff_eq.2 c0
    simp only [Option.some.injEq, Prod.mk.injEq] at hr
    obtain ⟨rfl, rfl, rfl⟩ := hr
    clear c0 H
    go_upto_region 5 with (fail)
    go_region_law (first
      | (go_simp; go_at_call 61; (with_reducible refine (moveOn.calls x.r0 x.r1 x.req _).mono ?_); rintro e w7 ⟨rfl, hB⟩; have X7 := Aside0.mk (blk_below (o := boxN x) (w := (v3).drew) (X3.out) hB); have K7 := Aside0.mk (show KB gx w w7 from KB.below (b := (v3).drew) (KB.drew (K3.out)) hB); clear n0 n1 n2 n3 n4 n5 n6 n7 n8 n9 n10 n11 n12 n13 y0 y1 y2 y3 y4 y5 y6 y7 y8 y9 y10 y11 y12 y13; obtain ⟨n0, n1, n2, n3, n4, n5, n6, n7, n8, n9, n10, n11, n12, n13⟩ := n_cells X7.out; obtain ⟨y0, y1, y2, y3, y4, y5, y6, y7, y8, y9, y10, y11, y12, y13⟩ := n_frozen X7.out; clear hB))
    all_goals try go_wp2
    all_goals go_ret2
    all_goals exact ⟨rfl, blk_put (blk_put X7.out 9 _ rfl) 10 _ rfl, KB.set (KB.set K7.out 9 _) 10 _⟩
  · rw [if_neg c0] at hr
    have c0b : (seen != x.ans) = true := bne_iff_ne.2 c0
    simp only [Option.some.injEq, Prod.mk.injEq] at hr
    obtain ⟨rfl, rfl, e3⟩ := hr
    clear c0 H
    by_cases p2 : l.ph = 2
    · have p2b : (l.ph == 2) = true := beq_iff_eq.2 p2
      rw [p2b, Bool.true_or] at e3
      subst e3
      clear p2
      go_upto_region 5 with (fail)
      go_region_law (first
        | (go_simp; go_at_call 61; (with_reducible refine (moveOn.calls x.r0 x.r1 x.req _).mono ?_); rintro e w7 ⟨rfl, hB⟩; have X7 := Aside0.mk (blk_below (o := boxN { x with ans := seen }) (w := (v3.setCell ⟨gx, 2, none⟩ (.int .i64 seen)).drew) (blk_put X3.out 2 (.int .i64 seen) rfl) hB); have K7 := Aside0.mk (show KB gx w w7 from KB.below (b := (v3.setCell ⟨gx, 2, none⟩ (.int .i64 seen)).drew) (KB.drew (KB.set K3.out 2 (.int .i64 seen))) hB); clear n0 n1 n2 n3 n4 n5 n6 n7 n8 n9 n10 n11 n12 n13 y0 y1 y2 y3 y4 y5 y6 y7 y8 y9 y10 y11 y12 y13; obtain ⟨n0, n1, n2, n3, n4, n5, n6, n7, n8, n9, n10, n11, n12, n13⟩ := n_cells X7.out; obtain ⟨y0, y1, y2, y3, y4, y5, y6, y7, y8, y9, y10, y11, y12, y13⟩ := n_frozen X7.out; clear hB))
      all_goals try go_wp2
      all_goals go_ret2
      all_goals exact ⟨rfl, blk_put (blk_put X7.out 9 _ rfl) 10 _ rfl, KB.set (KB.set K7.out 9 _) 10 _⟩
    · have p2b : (l.ph == 2) = false := beq_eq_false_iff_ne.2 p2
      by_cases s1 : seen = 1
      · have s1b : (seen == 1) = true := beq_iff_eq.2 s1
        rw [p2b, s1b, Bool.false_or] at e3
        subst e3
        clear p2 s1
        go_upto_region 5 with (fail)
        go_region_law (first
          | (go_simp; go_at_call 61; (with_reducible refine (moveOn.calls x.r0 x.r1 x.req _).mono ?_); rintro e w7 ⟨rfl, hB⟩; have X7 := Aside0.mk (blk_below (o := boxN { x with ans := seen }) (w := (v3.setCell ⟨gx, 2, none⟩ (.int .i64 seen)).drew) (blk_put X3.out 2 (.int .i64 seen) rfl) hB); have K7 := Aside0.mk (show KB gx w w7 from KB.below (b := (v3.setCell ⟨gx, 2, none⟩ (.int .i64 seen)).drew) (KB.drew (KB.set K3.out 2 (.int .i64 seen))) hB); clear n0 n1 n2 n3 n4 n5 n6 n7 n8 n9 n10 n11 n12 n13 y0 y1 y2 y3 y4 y5 y6 y7 y8 y9 y10 y11 y12 y13; obtain ⟨n0, n1, n2, n3, n4, n5, n6, n7, n8, n9, n10, n11, n12, n13⟩ := n_cells X7.out; obtain ⟨y0, y1, y2, y3, y4, y5, y6, y7, y8, y9, y10, y11, y12, y13⟩ := n_frozen X7.out; clear hB))
        all_goals try go_wp2
        all_goals go_ret2
        all_goals exact ⟨rfl, blk_put (blk_put X7.out 9 _ rfl) 10 _ rfl, KB.set (KB.set K7.out 9 _) 10 _⟩
      · have s1b : (seen == 1) = false := beq_eq_false_iff_ne.2 s1
        rw [p2b, s1b, Bool.false_or] at e3
        subst e3
        clear p2 s1
        go_upto_region 5 with (fail)
        go_region_law (first
          | (go_simp; go_at_call 61; (with_reducible refine (moveOn.calls x.r0 x.r1 x.req _).mono ?_); rintro e w7 ⟨rfl, hB⟩; have X7 := Aside0.mk (blk_below (o := boxN { x with ans := seen }) (w := (v3.setCell ⟨gx, 2, none⟩ (.int .i64 seen)).drew) (blk_put X3.out 2 (.int .i64 seen) rfl) hB); have K7 := Aside0.mk (show KB gx w w7 from KB.below (b := (v3.setCell ⟨gx, 2, none⟩ (.int .i64 seen)).drew) (KB.drew (KB.set K3.out 2 (.int .i64 seen))) hB); clear n0 n1 n2 n3 n4 n5 n6 n7 n8 n9 n10 n11 n12 n13 y0 y1 y2 y3 y4 y5 y6 y7 y8 y9 y10 y11 y12 y13; obtain ⟨n0, n1, n2, n3, n4, n5, n6, n7, n8, n9, n10, n11, n12, n13⟩ := n_cells X7.out; obtain ⟨y0, y1, y2, y3, y4, y5, y6, y7, y8, y9, y10, y11, y12, y13⟩ := n_frozen X7.out; clear hB))
        all_goals try go_wp2
        all_goals go_ret2
        all_goals exact ⟨rfl, blk_put (blk_put X7.out 9 _ rfl) 10 _ rfl, KB.set (KB.set K7.out 9 _) 10 _⟩
end Go.Proofs.Ytgmnbpdfdagniaa.A
