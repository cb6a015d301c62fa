/- The program's link: what comes behind a letter. No conditions. -/
import Derived.Test.YtgmnbpdfdagniaaZ29
import Derived.StillTailTactics
namespace Go.Proofs.Ytgmnbpdfdagniaa.A
open Go.RowKit Go.Proofs.YtgmnbpdfdagniaaW.PrintWords Go.Proofs.YtgmnbpdfdagniaaW.PrintLast Go.Proofs.YtgmnbpdfdagniaaW.PrintMore
set_option linter.unusedVariables false
set_option linter.unusedSimpArgs false
def letN (letter : Int) (x : LN) : LN := if x.last = letter then { x with run := wrap64 (x.run + 1) } else { x with last := letter, run := 1 }
def afterN (l : Lnk) (letter ratio : Int) (x : LN) : Option (LN × Bool × Bool) :=
  if letter = 115 then (stepS l (letN letter x)).bind fun y => some (y, true, decide (y.run ≤ ratio))
  else (stepR l (letN letter x)).bind fun p =>
    if p.2.2 = true then some ({ p.1 with taken := wrap64 (p.1.taken + 1) }, p.2.1 == p.1.taken && decide (p.1.taken < l.wd), decide (p.1.run ≤ ratio))
    else some (p.1, true, decide (p.1.run ≤ ratio))
/-- A struct is loaded whole in a region that draws. -/
theorem yields_load_row {P : Program} {ops : Array Oper} {S : World → Prop} {op : Oper} {a : Act} (hw : Region.wanted op (yielded ops a.tmps) = true) (ty : TypeId) (x : Operand) (ho : op.op = .load ty x) (g : Nat) (hx : a.eval x = .pointer (some ⟨g, 0, none⟩)) (t : TypeId) (cs : Array Value) (d : TypeDesc) (hS : ∀ w, S w → w.heap[g]? = some (.cells cs t (0, 0)))
    (hu : P.underlying ty = some d) (hd : (match d with | .struct _ | .array _ _ => true | _ => false) = true) (hi : (P.info? ty).map (·.size) = some cs.size) : YieldsIf P ops S op (.agg cs) a :=
  .inl ⟨hw, fun w hw' => by
    unfold execOp
    simp only [ho, hx, Instr.loadAt, Instr.sureAddr, Sem.run_bind, Sem.run_pure, Result.andThen_ok, run_loadVar_row w g t ty cs (0, 0) d (hS w hw') hu hd hi]⟩
/-- What a step of a node stands on. -/
structure NA (w : World) (gl gx gr : Nat) (l : Lnk) (x : LN) (W : World) : Prop where
  xb : W.heap[gx]? = some (boxN x)
  lb : W.heap[gl]? = some (boxL l)
  rb : W.heap[gr]? = some (.cells #[.int .i64 0, .int .i64 0, .int .i64 0, .int .i64 0, .bool false, .int .i64 0, .int .i64 0, .int .i64 0, .int .i64 0, .int .i64 0, .int .i64 0, .int .i64 0, .int .u8 0, .int .i64 0] 55 (0, 0))
  bel : Below w.heap.size w W
  lo : w.heap.size ≤ gx ∧ w.heap.size ≤ gr ∧ gl ≠ gx ∧ gr ≠ gx ∧ gr ≠ gl
theorem NA.kb {w : World} {gl gx gr : Nat} {l : Lnk} {x : LN} {W : World} (h : NA w gl gx gr l x W) {W' : World} (y : LN) (hx : W'.heap[gx]? = some (boxN y)) (hk : KB gx W W') : NA w gl gx gr l y W' :=
  ⟨hx, hk.keep h.lb h.lo.2.2.1, hk.keep h.rb h.lo.2.2.2.1, hk.low h.bel h.lo.1, h.lo⟩
set_option maxHeartbeats 6400000 in
set_option maxRecDepth 100000 in
theorem afterN.calls (l : Lnk) (letter ratio : Int) (x r : LN) (b1 b2 : Bool) (w : World) (h : afterN l letter ratio x = some (r, b1, b2)) :
    Calls Try.prog 48 #[.agg #[.int .i64 x.sent, .int .i64 x.req, .int .i64 x.ans, .int .i64 x.plc, .bool x.ow, .int .i64 x.word, .int .i64 x.gone, .int .i64 x.s0, .int .i64 x.s1, .int .i64 x.r0, .int .i64 x.r1, .int .i64 x.taken, .int .u8 x.last, .int .i64 x.run], .agg #[.int .i64 l.ph, .int .i64 l.sg, .int .i64 l.sk, .int .i64 l.wd], .int .u8 letter, .int .i64 ratio] w fun e w' => e = .returned (.tuple #[.agg #[.int .i64 r.sent, .int .i64 r.req, .int .i64 r.ans, .int .i64 r.plc, .bool r.ow, .int .i64 r.word, .int .i64 r.gone, .int .i64 r.s0, .int .i64 r.s1, .int .i64 r.r0, .int .i64 r.r1, .int .i64 r.taken, .int .u8 r.last, .int .i64 r.run], .bool b1, .bool b2]) ∧ Below w.heap.size w w' := by
  have H := Aside0.mk h
  have HU := Aside0.mk Try.underlying55
  clear h
  obtain ⟨y, hy⟩ : ∃ y, letN letter x = y := ⟨_, rfl⟩
  have HY := Aside0.mk hy
  clear hy
  go_enter Try.func48, Try.ntmps48
  go_upto_region 2 with (first
    | ((with_reducible refine gate_dst (N := 4) rfl ?_); refine box_event ?hg (N := 4) ?hd (cs := #[.int .i64 x.sent, .int .i64 x.req, .int .i64 x.ans, .int .i64 x.plc, .bool x.ow, .int .i64 x.word, .int .i64 x.gone, .int .i64 x.s0, .int .i64 x.s1, .int .i64 x.r0, .int .i64 x.r1, .int .i64 x.taken, .int .u8 x.last, .int .i64 x.run]) (t := 55) ?hr ?_; (case hd => rfl); (case hg => rfl); (case hr => first | (go_simp; done) | (go_simp; rfl)); intro gx hgx W1 hbox hb; have X1 := Aside0.mk hbox; have B1 := Aside0.mk hb; have GX := Aside0.mk hgx; clear hbox hb hgx)
    | ((with_reducible refine gate_dst (N := 5) rfl ?_); refine box_event ?hg (N := 5) ?hd (cs := #[.int .i64 l.ph, .int .i64 l.sg, .int .i64 l.sk, .int .i64 l.wd]) (t := 33) ?hr ?_; (case hd => rfl); (case hg => rfl); (case hr => first | (go_simp; done) | (go_simp; rfl)); intro gl hgl W2 hbox hb; have L2 := Aside0.mk (show W2.heap[gl]? = some (boxL l) from hbox); have X2 := Aside0.mk (show W2.heap[gx]? = some (boxN x) from blk_below X1.out hb); have B2 := Aside0.mk (below_step B1.out hb); have GL := Aside0.mk (show gl ≠ gx ∧ w.heap.size ≤ gl by (have h1_ := blk_lt X1.out; have h2_ := B1.out.size; omega)); clear hbox hb hgl)
    | ((with_reducible refine gate_dst (N := 8) rfl ?_); refine box_event ?hg (N := 8) ?hd (cs := #[.int .i64 0, .int .i64 0, .int .i64 0, .int .i64 0, .bool false, .int .i64 0, .int .i64 0, .int .i64 0, .int .i64 0, .int .i64 0, .int .i64 0, .int .i64 0, .int .u8 0, .int .i64 0]) (t := 55) ?hr ?_; (case hd => rfl); (case hg => rfl); (case hr => first | (go_simp; done) | (go_simp; rfl)); intro gr hgr W3 hbox hb; have A3 := Aside0.mk (show NA w gl gx gr l x W3 from ⟨blk_below X2.out hb, blk_below L2.out hb, hbox, below_step B2.out hb, by (have h1_ := blk_lt X2.out; have h2_ := blk_lt L2.out; have h3_ := B2.out.size; have h4_ := GX.out; have h5_ := GL.out; omega)⟩); clear hbox hb hgr))
  clear X1 B1 GX L2 X2 B2 GL
  obtain ⟨n0, n1, n2, n3, n4, n5, n6, n7, n8, n9, n10, n11, n12, n13⟩ := n_cells A3.out.xb
  obtain ⟨y0, y1, y2, y3, y4, y5, y6, y7, y8, y9, y10, y11, y12, y13⟩ := n_frozen A3.out.xb
  go_upto_if 21 with (fail)
  go_cut [] from 14 to 24 (fun wc => Aside0 (NA w gl gx gr l y wc))
  case first =>
    by_cases f0 : x.last = letter
    · have f0b : (x.last != letter) = false := bne_eq_false_iff_eq.2 f0
      have hnr : letN letter x = { x with run := wrap64 (x.run + 1) } := by unfold letN; rw [if_pos f0]
      clear f0
      go_wp2
      go_meet
      case rel => exact ⟨NA.kb A3.out y (by rw [← HY.out, hnr]; exact blk_put A3.out.xb 13 (.int .i64 (wrap64 (x.run + 1))) rfl) (KB.set (KB.refl gx _) 13 _)⟩
    · have f0b : (x.last != letter) = true := bne_iff_ne.2 f0
      have hnr : letN letter x = { x with last := letter, run := 1 } := by unfold letN; rw [if_neg f0]
      clear f0
      go_wp2
      go_meet
      case rel => exact ⟨NA.kb A3.out y (by rw [← HY.out, hnr]; exact blk_put (blk_put (blk_put A3.out.xb 13 (.int .i64 (wrap64 (x.run + 1))) rfl) 12 (.int .u8 letter) rfl) 13 (.int .i64 1) rfl) (KB.set (KB.set (KB.set (KB.refl gx _) 13 _) 12 _) 13 _)⟩
  case rest =>
    have A4 := hcut
    clear hcut n0 n1 n2 n3 n4 n5 n6 n7 n8 n9 n10 n11 n12 n13 y0 y1 y2 y3 y4 y5 y6 y7 y8 y9 y10 y11 y12 y13
    obtain ⟨n0, n1, n2, n3, n4, n5, n6, n7, n8, n9, n10, n11, n12, n13⟩ := n_cells A4.out.xb
    obtain ⟨y0, y1, y2, y3, y4, y5, y6, y7, y8, y9, y10, y11, y12, y13⟩ := n_frozen A4.out.xb
    have hr := H.out
    unfold afterN at hr
    rw [HY.out] at hr
    by_cases c0 : letter = 115
    · have c0b : (letter == 115) = true := beq_iff_eq.2 c0
      rw [if_pos c0] at hr
      obtain ⟨z, hz, hr⟩ := Option.bind_eq_some_iff.1 hr
      simp only [Option.some.injEq, Prod.mk.injEq] at hr
      obtain ⟨rfl, rfl, hk⟩ := hr
      have HZ := Aside0.mk hz
      have HK := Aside0.mk hk
      clear hz hk c0
      go_wp2_with (first
        | ((with_reducible refine gate_dst (N := 28) rfl ?_); refine load_row_event rfl 33 (.tmp 5) rfl gl rfl 33 #[.int .i64 l.ph, .int .i64 l.sg, .int .i64 l.sk, .int .i64 l.wd] _ A4.out.lb Try.underlying33 rfl (by kernel_rfl) ?_)
        | (go_at_call 54; (with_reducible refine (stepS.calls gx l y z _ A4.out.xb HZ.out).mono ?_); rintro e w5 ⟨rfl, hx5, hk5⟩; have A5 := Aside0.mk (NA.kb A4.out z hx5 hk5); clear hx5 hk5))
      clear n0 n1 n2 n3 n4 n5 n6 n7 n8 n9 n10 n11 n12 n13 y0 y1 y2 y3 y4 y5 y6 y7 y8 y9 y10 y11 y12 y13
      have n13z := (blk_cell A5.out.xb 13).trans rfl
      refine wp_region_held_drew (S := fun w' => w'.heap[gx]? = some (boxN z) ∧ w'.cell? ⟨gx, 13, none⟩ = some (.int .i64 z.run)) (by kernel_rfl) ⟨A5.out.xb, n13z⟩ (fun hHeld => ?_)
      refine wpAnyH_take (i := 0) (oi := { dst := some 52, op := .load 55 (.tmp 4), type := 55, pos := _, after := _, guard := none }) (v := _) rfl (by kernel_rfl) (by kernel_rfl) (by kernel_rfl) (fun _ _ _ h => h) (yields_load_row (by rfl) 55 (.tmp 4) rfl gx rfl 55 #[.int .i64 z.sent, .int .i64 z.req, .int .i64 z.ans, .int .i64 z.plc, .bool z.ow, .int .i64 z.word, .int .i64 z.gone, .int .i64 z.s0, .int .i64 z.s1, .int .i64 z.r0, .int .i64 z.r1, .int .i64 z.taken, .int .u8 z.last, .int .i64 z.run] _ (fun w h => h.1) HU.out rfl (by kernel_rfl)) (by assumption) ?_
      simp only [Act.put, List.setIfInBounds_toArray, List.set_cons_zero, List.set_cons_succ]
      refine wpAnyH_take (i := 1) (oi := { dst := some 53, op := .move (.tmp 11), type := 4, pos := _, after := _, guard := none }) (v := .bool true) rfl (by kernel_rfl) (by kernel_rfl) (by kernel_rfl) (fun _ _ _ h => h) (Or.inl ⟨by rfl, by intro w hSw; (try dsimp only at hSw); obtain ⟨-, h13⟩ := hSw; go_simp⟩) (by assumption) ?_
      simp only [Act.put, List.setIfInBounds_toArray, List.set_cons_zero, List.set_cons_succ]
      refine wpAnyH_take (i := 2) (oi := { dst := some 54, op := .fieldAddr 55 (.tmp 4) 3, type := 0, pos := _, after := _, guard := none }) (v := .pointer (some ⟨gx, 13, none⟩)) rfl (by kernel_rfl) (by kernel_rfl) (by kernel_rfl) (fun _ _ _ h => h) (Or.inl ⟨by rfl, by intro w hSw; (try dsimp only at hSw); obtain ⟨-, h13⟩ := hSw; go_simp⟩) (by assumption) ?_
      simp only [Act.put, List.setIfInBounds_toArray, List.set_cons_zero, List.set_cons_succ]
      refine wpAnyH_take (i := 3) (oi := { dst := some 55, op := .load 2 (.tmp 54), type := 2, pos := _, after := _, guard := none }) (v := .int .i64 z.run) rfl (by kernel_rfl) (by kernel_rfl) (by kernel_rfl) (fun _ _ _ h => h) (Or.inl ⟨by rfl, by intro w hSw; (try dsimp only at hSw); obtain ⟨-, h13⟩ := hSw; go_simp⟩) (by assumption) ?_
      simp only [Act.put, List.setIfInBounds_toArray, List.set_cons_zero, List.set_cons_succ]
      refine wpAnyH_take (i := 4) (oi := { dst := some 56, op := .move (.tmp 3), type := 2, pos := _, after := _, guard := none }) (v := .int .i64 ratio) rfl (by kernel_rfl) (by kernel_rfl) (by kernel_rfl) (fun _ _ _ h => h) (Or.inl ⟨by rfl, by intro w hSw; (try dsimp only at hSw); obtain ⟨-, h13⟩ := hSw; go_simp⟩) (by assumption) ?_
      simp only [Act.put, List.setIfInBounds_toArray, List.set_cons_zero, List.set_cons_succ]
      refine wpAnyH_take (i := 5) (oi := { dst := some 57, op := .binOp .leq 2 (.tmp 55) (.tmp 56) 2, type := 4, pos := _, after := _, guard := none }) (v := .bool (decide (z.run ≤ ratio))) rfl (by kernel_rfl) (by kernel_rfl) (by kernel_rfl) (fun _ _ _ h => h) (Or.inl ⟨by rfl, by intro w hSw; (try dsimp only at hSw); obtain ⟨-, h13⟩ := hSw; go_simp⟩) (by assumption) ?_
      simp only [Act.put, List.setIfInBounds_toArray, List.set_cons_zero, List.set_cons_succ]
      refine wpAnyH_ready (rs := [6]) (by kernel_rfl) (by simp) ?_
      refine AllReadyH.cons (o := { dst := none, op := .store 55 (.tmp 8) (.tmp 52), type := 0, pos := _, after := _, guard := none }) rfl ?step0 ?more0
      case more0 => with_reducible exact AllReadyH.nil
      intro K hK
      rw [if_pos (by rfl)]
      refine wp_store_row 55 (.tmp 8) (.tmp 52) rfl gr #[.int .i64 z.sent, .int .i64 z.req, .int .i64 z.ans, .int .i64 z.plc, .bool z.ow, .int .i64 z.word, .int .i64 z.gone, .int .i64 z.s0, .int .i64 z.s1, .int .i64 z.r0, .int .i64 z.r1, .int .i64 z.taken, .int .u8 z.last, .int .i64 z.run] rfl rfl 55 _ A5.out.rb (by kernel_rfl) (by first | rfl | kernel_rfl) (by first | rfl | kernel_rfl | simp [Value.oneCell']) ?_
      obtain ⟨W9, hW9⟩ : ∃ W9, World.setRow (World.drew w5) gr #[.int .i64 z.sent, .int .i64 z.req, .int .i64 z.ans, .int .i64 z.plc, .bool z.ow, .int .i64 z.word, .int .i64 z.gone, .int .i64 z.s0, .int .i64 z.s1, .int .i64 z.r0, .int .i64 z.r1, .int .i64 z.taken, .int .u8 z.last, .int .i64 z.run] = W9 := ⟨_, rfl⟩
      rw [hW9]
      have R9 := Aside0.mk (show W9.heap[gr]? = some (boxN z) by rw [← hW9]; exact setRow_heap _ gr _ _ 55 (0, 0) A5.out.rb)
      have X9 := Aside0.mk (show W9.heap[gx]? = some (boxN z) by rw [← hW9, setRow_other _ gr gx _ A5.out.lo.2.2.2.1.symm]; exact A5.out.xb)
      have B9 := Aside0.mk (show Below w.heap.size w W9 from KB.low (show KB gr (World.drew w5) W9 by rw [← hW9]; exact ⟨rfl, rfl, rfl, by simp, fun i hi hne => setRow_other _ gr i _ hne⟩) (below_drew A5.out.bel) A5.out.lo.2.1)
      clear hW9
      refine hK.out _ _ ⟨X9.out, (blk_cell X9.out 13).trans rfl⟩ (fun hHeld => ?_)
      clear hK K
      refine wpAnyH_take (i := 7) (oi := { dst := some 9, op := .assign (.tmp 53), type := 4, pos := _, after := _, guard := none }) (v := .bool true) rfl (by kernel_rfl) (by kernel_rfl) (by kernel_rfl) (fun _ _ _ h => h) (Or.inl ⟨by rfl, by intro w hSw; (try dsimp only at hSw); obtain ⟨-, h13⟩ := hSw; go_simp⟩) (by assumption) ?_
      simp only [Act.put, List.setIfInBounds_toArray, List.set_cons_zero, List.set_cons_succ]
      refine wpAnyH_take (i := 8) (oi := { dst := some 10, op := .assign (.tmp 57), type := 4, pos := _, after := _, guard := none }) (v := .bool (decide (z.run ≤ ratio))) rfl (by kernel_rfl) (by kernel_rfl) (by kernel_rfl) (fun _ _ _ h => h) (Or.inl ⟨by rfl, by intro w hSw; (try dsimp only at hSw); obtain ⟨-, h13⟩ := hSw; go_simp⟩) (by assumption) ?_
      simp only [Act.put, List.setIfInBounds_toArray, List.set_cons_zero, List.set_cons_succ]
      refine wpAnyH_done (by kernel_rfl) ?_ _
      go_wp2
      refine bodyPost_ret (results_ctt rfl _ _ gr 55 #[.int .i64 z.sent, .int .i64 z.req, .int .i64 z.ans, .int .i64 z.plc, .bool z.ow, .int .i64 z.word, .int .i64 z.gone, .int .i64 z.s0, .int .i64 z.s1, .int .i64 z.r0, .int .i64 z.r1, .int .i64 z.taken, .int .u8 z.last, .int .i64 z.run] (0, 0) _ rfl R9.out HU.out rfl (by kernel_rfl)) rfl ?_
      exact ⟨by rw [← HK.out]; rfl, B9.out⟩
    · have c0b : (letter == 115) = false := beq_eq_false_iff_ne.2 c0
      rw [if_neg c0] at hr
      obtain ⟨⟨z, v, tk⟩, hz, hr⟩ := Option.bind_eq_some_iff.1 hr
      have HZ := Aside0.mk hz
      clear hz c0
      cases tk with
      | false =>
        simp only [Bool.false_eq_true, if_false, Option.some.injEq, Prod.mk.injEq] at hr
        obtain ⟨rfl, rfl, hk⟩ := hr
        have HK := Aside0.mk hk
        clear hk
        go_wp2_with (first
          | ((with_reducible refine gate_dst (N := 32) rfl ?_); refine load_row_event rfl 33 (.tmp 5) rfl gl rfl 33 #[.int .i64 l.ph, .int .i64 l.sg, .int .i64 l.sk, .int .i64 l.wd] _ A4.out.lb Try.underlying33 rfl (by kernel_rfl) ?_)
          | (go_at_call 55; (with_reducible refine (stepR.calls gx l y z v false _ A4.out.xb HZ.out).mono ?_); rintro e w5 ⟨rfl, hx5, hk5⟩; have A5 := Aside0.mk (NA.kb A4.out z hx5 hk5); clear hx5 hk5))
        clear n0 n1 n2 n3 n4 n5 n6 n7 n8 n9 n10 n11 n12 n13 y0 y1 y2 y3 y4 y5 y6 y7 y8 y9 y10 y11 y12 y13
        have n13z := (blk_cell A5.out.xb 13).trans rfl
        refine wp_region_held_drew (S := fun w' => w'.heap[gx]? = some (boxN z) ∧ w'.cell? ⟨gx, 13, none⟩ = some (.int .i64 z.run)) (by kernel_rfl) ⟨A5.out.xb, n13z⟩ (fun hHeld => ?_)
        refine wpAnyH_take (i := 0) (oi := { dst := some 52, op := .load 55 (.tmp 4), type := 55, pos := _, after := _, guard := none }) (v := _) rfl (by kernel_rfl) (by kernel_rfl) (by kernel_rfl) (fun _ _ _ h => h) (yields_load_row (by rfl) 55 (.tmp 4) rfl gx rfl 55 #[.int .i64 z.sent, .int .i64 z.req, .int .i64 z.ans, .int .i64 z.plc, .bool z.ow, .int .i64 z.word, .int .i64 z.gone, .int .i64 z.s0, .int .i64 z.s1, .int .i64 z.r0, .int .i64 z.r1, .int .i64 z.taken, .int .u8 z.last, .int .i64 z.run] _ (fun w h => h.1) HU.out rfl (by kernel_rfl)) (by assumption) ?_
        simp only [Act.put, List.setIfInBounds_toArray, List.set_cons_zero, List.set_cons_succ]
        refine wpAnyH_take (i := 1) (oi := { dst := some 53, op := .move (.tmp 11), type := 4, pos := _, after := _, guard := none }) (v := .bool true) rfl (by kernel_rfl) (by kernel_rfl) (by kernel_rfl) (fun _ _ _ h => h) (Or.inl ⟨by rfl, by intro w hSw; (try dsimp only at hSw); obtain ⟨-, h13⟩ := hSw; go_simp⟩) (by assumption) ?_
        simp only [Act.put, List.setIfInBounds_toArray, List.set_cons_zero, List.set_cons_succ]
        refine wpAnyH_take (i := 2) (oi := { dst := some 54, op := .fieldAddr 55 (.tmp 4) 3, type := 0, pos := _, after := _, guard := none }) (v := .pointer (some ⟨gx, 13, none⟩)) rfl (by kernel_rfl) (by kernel_rfl) (by kernel_rfl) (fun _ _ _ h => h) (Or.inl ⟨by rfl, by intro w hSw; (try dsimp only at hSw); obtain ⟨-, h13⟩ := hSw; go_simp⟩) (by assumption) ?_
        simp only [Act.put, List.setIfInBounds_toArray, List.set_cons_zero, List.set_cons_succ]
        refine wpAnyH_take (i := 3) (oi := { dst := some 55, op := .load 2 (.tmp 54), type := 2, pos := _, after := _, guard := none }) (v := .int .i64 z.run) rfl (by kernel_rfl) (by kernel_rfl) (by kernel_rfl) (fun _ _ _ h => h) (Or.inl ⟨by rfl, by intro w hSw; (try dsimp only at hSw); obtain ⟨-, h13⟩ := hSw; go_simp⟩) (by assumption) ?_
        simp only [Act.put, List.setIfInBounds_toArray, List.set_cons_zero, List.set_cons_succ]
        refine wpAnyH_take (i := 4) (oi := { dst := some 56, op := .move (.tmp 3), type := 2, pos := _, after := _, guard := none }) (v := .int .i64 ratio) rfl (by kernel_rfl) (by kernel_rfl) (by kernel_rfl) (fun _ _ _ h => h) (Or.inl ⟨by rfl, by intro w hSw; (try dsimp only at hSw); obtain ⟨-, h13⟩ := hSw; go_simp⟩) (by assumption) ?_
        simp only [Act.put, List.setIfInBounds_toArray, List.set_cons_zero, List.set_cons_succ]
        refine wpAnyH_take (i := 5) (oi := { dst := some 57, op := .binOp .leq 2 (.tmp 55) (.tmp 56) 2, type := 4, pos := _, after := _, guard := none }) (v := .bool (decide (z.run ≤ ratio))) rfl (by kernel_rfl) (by kernel_rfl) (by kernel_rfl) (fun _ _ _ h => h) (Or.inl ⟨by rfl, by intro w hSw; (try dsimp only at hSw); obtain ⟨-, h13⟩ := hSw; go_simp⟩) (by assumption) ?_
        simp only [Act.put, List.setIfInBounds_toArray, List.set_cons_zero, List.set_cons_succ]
        refine wpAnyH_ready (rs := [6]) (by kernel_rfl) (by simp) ?_
        refine AllReadyH.cons (o := { dst := none, op := .store 55 (.tmp 8) (.tmp 52), type := 0, pos := _, after := _, guard := none }) rfl ?step1 ?more1
        case more1 => with_reducible exact AllReadyH.nil
        intro K hK
        rw [if_pos (by rfl)]
        refine wp_store_row 55 (.tmp 8) (.tmp 52) rfl gr #[.int .i64 z.sent, .int .i64 z.req, .int .i64 z.ans, .int .i64 z.plc, .bool z.ow, .int .i64 z.word, .int .i64 z.gone, .int .i64 z.s0, .int .i64 z.s1, .int .i64 z.r0, .int .i64 z.r1, .int .i64 z.taken, .int .u8 z.last, .int .i64 z.run] rfl rfl 55 _ A5.out.rb (by kernel_rfl) (by first | rfl | kernel_rfl) (by first | rfl | kernel_rfl | simp [Value.oneCell']) ?_
        obtain ⟨W9, hW9⟩ : ∃ W9, World.setRow (World.drew w5) gr #[.int .i64 z.sent, .int .i64 z.req, .int .i64 z.ans, .int .i64 z.plc, .bool z.ow, .int .i64 z.word, .int .i64 z.gone, .int .i64 z.s0, .int .i64 z.s1, .int .i64 z.r0, .int .i64 z.r1, .int .i64 z.taken, .int .u8 z.last, .int .i64 z.run] = W9 := ⟨_, rfl⟩
        rw [hW9]
        have R9 := Aside0.mk (show W9.heap[gr]? = some (boxN z) by rw [← hW9]; exact setRow_heap _ gr _ _ 55 (0, 0) A5.out.rb)
        have X9 := Aside0.mk (show W9.heap[gx]? = some (boxN z) by rw [← hW9, setRow_other _ gr gx _ A5.out.lo.2.2.2.1.symm]; exact A5.out.xb)
        have B9 := Aside0.mk (show Below w.heap.size w W9 from KB.low (show KB gr (World.drew w5) W9 by rw [← hW9]; exact ⟨rfl, rfl, rfl, by simp, fun i hi hne => setRow_other _ gr i _ hne⟩) (below_drew A5.out.bel) A5.out.lo.2.1)
        clear hW9
        refine hK.out _ _ ⟨X9.out, (blk_cell X9.out 13).trans rfl⟩ (fun hHeld => ?_)
        clear hK K
        refine wpAnyH_take (i := 7) (oi := { dst := some 9, op := .assign (.tmp 53), type := 4, pos := _, after := _, guard := none }) (v := .bool true) rfl (by kernel_rfl) (by kernel_rfl) (by kernel_rfl) (fun _ _ _ h => h) (Or.inl ⟨by rfl, by intro w hSw; (try dsimp only at hSw); obtain ⟨-, h13⟩ := hSw; go_simp⟩) (by assumption) ?_
        simp only [Act.put, List.setIfInBounds_toArray, List.set_cons_zero, List.set_cons_succ]
        refine wpAnyH_take (i := 8) (oi := { dst := some 10, op := .assign (.tmp 57), type := 4, pos := _, after := _, guard := none }) (v := .bool (decide (z.run ≤ ratio))) rfl (by kernel_rfl) (by kernel_rfl) (by kernel_rfl) (fun _ _ _ h => h) (Or.inl ⟨by rfl, by intro w hSw; (try dsimp only at hSw); obtain ⟨-, h13⟩ := hSw; go_simp⟩) (by assumption) ?_
        simp only [Act.put, List.setIfInBounds_toArray, List.set_cons_zero, List.set_cons_succ]
        refine wpAnyH_done (by kernel_rfl) ?_ _
        go_wp2
        refine bodyPost_ret (results_ctt rfl _ _ gr 55 #[.int .i64 z.sent, .int .i64 z.req, .int .i64 z.ans, .int .i64 z.plc, .bool z.ow, .int .i64 z.word, .int .i64 z.gone, .int .i64 z.s0, .int .i64 z.s1, .int .i64 z.r0, .int .i64 z.r1, .int .i64 z.taken, .int .u8 z.last, .int .i64 z.run] (0, 0) _ rfl R9.out HU.out rfl (by kernel_rfl)) rfl ?_
        exact ⟨by rw [← HK.out]; rfl, B9.out⟩
      | true =>
        simp only [if_true, Option.some.injEq, Prod.mk.injEq] at hr
        obtain ⟨rfl, hr1, hk⟩ := hr
        have HK := Aside0.mk hk
        have HR1 := Aside0.mk hr1
        clear hk hr1
        by_cases c1 : v = z.taken
        · have c1b : (v == z.taken) = true := beq_iff_eq.2 c1
          clear c1
          by_cases c2 : z.taken < l.wd
          · have c2b : decide (z.taken < l.wd) = true := decide_eq_true c2
            clear c2
            go_upto_region 9 with (first
              | ((with_reducible refine gate_dst (N := 32) rfl ?_); refine load_row_event rfl 33 (.tmp 5) rfl gl rfl 33 #[.int .i64 l.ph, .int .i64 l.sg, .int .i64 l.sk, .int .i64 l.wd] _ A4.out.lb Try.underlying33 rfl (by kernel_rfl) ?_)
              | (go_at_call 55; (with_reducible refine (stepR.calls gx l y z v true _ A4.out.xb HZ.out).mono ?_); rintro e w5 ⟨rfl, hx5, hk5⟩; have A5 := Aside0.mk (NA.kb A4.out z hx5 hk5); clear hx5 hk5))
            clear n0 n1 n2 n3 n4 n5 n6 n7 n8 n9 n10 n11 n12 n13 y0 y1 y2 y3 y4 y5 y6 y7 y8 y9 y10 y11 y12 y13
            obtain ⟨n0, n1, n2, n3, n4, n5, n6, n7, n8, n9, n10, n11, n12, n13⟩ := n_cells A5.out.xb
            obtain ⟨y0, y1, y2, y3, y4, y5, y6, y7, y8, y9, y10, y11, y12, y13⟩ := n_frozen A5.out.xb
            obtain ⟨l0, l1, l2, l3⟩ := l_cells A5.out.lb
            go_upto_region 11 with (fail)
            obtain ⟨q, hq⟩ : ∃ q : LN, { z with taken := wrap64 (z.taken + 1) } = q := ⟨_, rfl⟩
            obtain ⟨W6, hW6⟩ : ∃ W6, World.setCell w5 ⟨gx, 11, none⟩ (.int .i64 (wrap64 (z.taken + 1))) = W6 := ⟨_, rfl⟩
            rw [hW6]
            have A6 := Aside0.mk (NA.kb (W' := W6) A5.out q (by rw [← hq, ← hW6]; exact blk_put A5.out.xb 11 (.int .i64 (wrap64 (z.taken + 1))) rfl) (by rw [← hW6]; exact KB.set (KB.refl gx _) 11 _))
            clear n0 n1 n2 n3 n4 n5 n6 n7 n8 n9 n10 n11 n12 n13 y0 y1 y2 y3 y4 y5 y6 y7 y8 y9 y10 y11 y12 y13 l0 l1 l2 l3
            have n13z := (blk_cell A6.out.xb 13).trans rfl
            refine wp_region_held_drew (S := fun w' => w'.heap[gx]? = some (boxN q) ∧ w'.cell? ⟨gx, 13, none⟩ = some (.int .i64 q.run)) (by kernel_rfl) ⟨A6.out.xb, n13z⟩ (fun hHeld => ?_)
            refine wpAnyH_take (i := 0) (oi := { dst := some 52, op := .load 55 (.tmp 4), type := 55, pos := _, after := _, guard := none }) (v := _) rfl (by kernel_rfl) (by kernel_rfl) (by kernel_rfl) (fun _ _ _ h => h) (yields_load_row (by rfl) 55 (.tmp 4) rfl gx rfl 55 #[.int .i64 q.sent, .int .i64 q.req, .int .i64 q.ans, .int .i64 q.plc, .bool q.ow, .int .i64 q.word, .int .i64 q.gone, .int .i64 q.s0, .int .i64 q.s1, .int .i64 q.r0, .int .i64 q.r1, .int .i64 q.taken, .int .u8 q.last, .int .i64 q.run] _ (fun w h => h.1) HU.out rfl (by kernel_rfl)) (by assumption) ?_
            simp only [Act.put, List.setIfInBounds_toArray, List.set_cons_zero, List.set_cons_succ]
            refine wpAnyH_take (i := 1) (oi := { dst := some 53, op := .move (.tmp 11), type := 4, pos := _, after := _, guard := none }) (v := .bool true) rfl (by kernel_rfl) (by kernel_rfl) (by kernel_rfl) (fun _ _ _ h => h) (Or.inl ⟨by rfl, by intro w hSw; (try dsimp only at hSw); obtain ⟨-, h13⟩ := hSw; go_simp⟩) (by assumption) ?_
            simp only [Act.put, List.setIfInBounds_toArray, List.set_cons_zero, List.set_cons_succ]
            refine wpAnyH_take (i := 2) (oi := { dst := some 54, op := .fieldAddr 55 (.tmp 4) 3, type := 0, pos := _, after := _, guard := none }) (v := .pointer (some ⟨gx, 13, none⟩)) rfl (by kernel_rfl) (by kernel_rfl) (by kernel_rfl) (fun _ _ _ h => h) (Or.inl ⟨by rfl, by intro w hSw; (try dsimp only at hSw); obtain ⟨-, h13⟩ := hSw; go_simp⟩) (by assumption) ?_
            simp only [Act.put, List.setIfInBounds_toArray, List.set_cons_zero, List.set_cons_succ]
            refine wpAnyH_take (i := 3) (oi := { dst := some 55, op := .load 2 (.tmp 54), type := 2, pos := _, after := _, guard := none }) (v := .int .i64 q.run) rfl (by kernel_rfl) (by kernel_rfl) (by kernel_rfl) (fun _ _ _ h => h) (Or.inl ⟨by rfl, by intro w hSw; (try dsimp only at hSw); obtain ⟨-, h13⟩ := hSw; go_simp⟩) (by assumption) ?_
            simp only [Act.put, List.setIfInBounds_toArray, List.set_cons_zero, List.set_cons_succ]
            refine wpAnyH_take (i := 4) (oi := { dst := some 56, op := .move (.tmp 3), type := 2, pos := _, after := _, guard := none }) (v := .int .i64 ratio) rfl (by kernel_rfl) (by kernel_rfl) (by kernel_rfl) (fun _ _ _ h => h) (Or.inl ⟨by rfl, by intro w hSw; (try dsimp only at hSw); obtain ⟨-, h13⟩ := hSw; go_simp⟩) (by assumption) ?_
            simp only [Act.put, List.setIfInBounds_toArray, List.set_cons_zero, List.set_cons_succ]
            refine wpAnyH_take (i := 5) (oi := { dst := some 57, op := .binOp .leq 2 (.tmp 55) (.tmp 56) 2, type := 4, pos := _, after := _, guard := none }) (v := .bool (decide (q.run ≤ ratio))) rfl (by kernel_rfl) (by kernel_rfl) (by kernel_rfl) (fun _ _ _ h => h) (Or.inl ⟨by rfl, by intro w hSw; (try dsimp only at hSw); obtain ⟨-, h13⟩ := hSw; go_simp⟩) (by assumption) ?_
            simp only [Act.put, List.setIfInBounds_toArray, List.set_cons_zero, List.set_cons_succ]
            refine wpAnyH_ready (rs := [6]) (by kernel_rfl) (by simp) ?_
            refine AllReadyH.cons (o := { dst := none, op := .store 55 (.tmp 8) (.tmp 52), type := 0, pos := _, after := _, guard := none }) rfl ?step2 ?more2
            case more2 => with_reducible exact AllReadyH.nil
            intro K hK
            rw [if_pos (by rfl)]
            refine wp_store_row 55 (.tmp 8) (.tmp 52) rfl gr #[.int .i64 q.sent, .int .i64 q.req, .int .i64 q.ans, .int .i64 q.plc, .bool q.ow, .int .i64 q.word, .int .i64 q.gone, .int .i64 q.s0, .int .i64 q.s1, .int .i64 q.r0, .int .i64 q.r1, .int .i64 q.taken, .int .u8 q.last, .int .i64 q.run] rfl rfl 55 _ A6.out.rb (by kernel_rfl) (by first | rfl | kernel_rfl) (by first | rfl | kernel_rfl | simp [Value.oneCell']) ?_
            obtain ⟨W9, hW9⟩ : ∃ W9, World.setRow (World.drew W6) gr #[.int .i64 q.sent, .int .i64 q.req, .int .i64 q.ans, .int .i64 q.plc, .bool q.ow, .int .i64 q.word, .int .i64 q.gone, .int .i64 q.s0, .int .i64 q.s1, .int .i64 q.r0, .int .i64 q.r1, .int .i64 q.taken, .int .u8 q.last, .int .i64 q.run] = W9 := ⟨_, rfl⟩
            rw [hW9]
            have R9 := Aside0.mk (show W9.heap[gr]? = some (boxN q) by rw [← hW9]; exact setRow_heap _ gr _ _ 55 (0, 0) A6.out.rb)
            have X9 := Aside0.mk (show W9.heap[gx]? = some (boxN q) by rw [← hW9, setRow_other _ gr gx _ A6.out.lo.2.2.2.1.symm]; exact A6.out.xb)
            have B9 := Aside0.mk (show Below w.heap.size w W9 from KB.low (show KB gr (World.drew W6) W9 by rw [← hW9]; exact ⟨rfl, rfl, rfl, by simp, fun i hi hne => setRow_other _ gr i _ hne⟩) (below_drew A6.out.bel) A6.out.lo.2.1)
            clear hW9
            refine hK.out _ _ ⟨X9.out, (blk_cell X9.out 13).trans rfl⟩ (fun hHeld => ?_)
            clear hK K
            refine wpAnyH_take (i := 7) (oi := { dst := some 9, op := .assign (.tmp 53), type := 4, pos := _, after := _, guard := none }) (v := .bool true) rfl (by kernel_rfl) (by kernel_rfl) (by kernel_rfl) (fun _ _ _ h => h) (Or.inl ⟨by rfl, by intro w hSw; (try dsimp only at hSw); obtain ⟨-, h13⟩ := hSw; go_simp⟩) (by assumption) ?_
            simp only [Act.put, List.setIfInBounds_toArray, List.set_cons_zero, List.set_cons_succ]
            refine wpAnyH_take (i := 8) (oi := { dst := some 10, op := .assign (.tmp 57), type := 4, pos := _, after := _, guard := none }) (v := .bool (decide (q.run ≤ ratio))) rfl (by kernel_rfl) (by kernel_rfl) (by kernel_rfl) (fun _ _ _ h => h) (Or.inl ⟨by rfl, by intro w hSw; (try dsimp only at hSw); obtain ⟨-, h13⟩ := hSw; go_simp⟩) (by assumption) ?_
            simp only [Act.put, List.setIfInBounds_toArray, List.set_cons_zero, List.set_cons_succ]
            refine wpAnyH_done (by kernel_rfl) ?_ _
            go_wp2
            refine bodyPost_ret (results_ctt rfl _ _ gr 55 #[.int .i64 q.sent, .int .i64 q.req, .int .i64 q.ans, .int .i64 q.plc, .bool q.ow, .int .i64 q.word, .int .i64 q.gone, .int .i64 q.s0, .int .i64 q.s1, .int .i64 q.r0, .int .i64 q.r1, .int .i64 q.taken, .int .u8 q.last, .int .i64 q.run] (0, 0) _ rfl R9.out HU.out rfl (by kernel_rfl)) rfl ?_
            exact ⟨by rw [← HR1.out, c1b, c2b, ← HK.out, ← hq]; rfl, B9.out⟩
          · have c2b : decide (z.taken < l.wd) = false := decide_eq_false c2
            clear c2
            go_upto_region 9 with (first
              | ((with_reducible refine gate_dst (N := 32) rfl ?_); refine load_row_event rfl 33 (.tmp 5) rfl gl rfl 33 #[.int .i64 l.ph, .int .i64 l.sg, .int .i64 l.sk, .int .i64 l.wd] _ A4.out.lb Try.underlying33 rfl (by kernel_rfl) ?_)
              | (go_at_call 55; (with_reducible refine (stepR.calls gx l y z v true _ A4.out.xb HZ.out).mono ?_); rintro e w5 ⟨rfl, hx5, hk5⟩; have A5 := Aside0.mk (NA.kb A4.out z hx5 hk5); clear hx5 hk5))
            clear n0 n1 n2 n3 n4 n5 n6 n7 n8 n9 n10 n11 n12 n13 y0 y1 y2 y3 y4 y5 y6 y7 y8 y9 y10 y11 y12 y13
            obtain ⟨n0, n1, n2, n3, n4, n5, n6, n7, n8, n9, n10, n11, n12, n13⟩ := n_cells A5.out.xb
            obtain ⟨y0, y1, y2, y3, y4, y5, y6, y7, y8, y9, y10, y11, y12, y13⟩ := n_frozen A5.out.xb
            obtain ⟨l0, l1, l2, l3⟩ := l_cells A5.out.lb
            go_upto_region 11 with (fail)
            obtain ⟨q, hq⟩ : ∃ q : LN, { z with taken := wrap64 (z.taken + 1) } = q := ⟨_, rfl⟩
            obtain ⟨W6, hW6⟩ : ∃ W6, World.setCell w5 ⟨gx, 11, none⟩ (.int .i64 (wrap64 (z.taken + 1))) = W6 := ⟨_, rfl⟩
            rw [hW6]
            have A6 := Aside0.mk (NA.kb (W' := W6) A5.out q (by rw [← hq, ← hW6]; exact blk_put A5.out.xb 11 (.int .i64 (wrap64 (z.taken + 1))) rfl) (by rw [← hW6]; exact KB.set (KB.refl gx _) 11 _))
            clear n0 n1 n2 n3 n4 n5 n6 n7 n8 n9 n10 n11 n12 n13 y0 y1 y2 y3 y4 y5 y6 y7 y8 y9 y10 y11 y12 y13 l0 l1 l2 l3
            have n13z := (blk_cell A6.out.xb 13).trans rfl
            refine wp_region_held_drew (S := fun w' => w'.heap[gx]? = some (boxN q) ∧ w'.cell? ⟨gx, 13, none⟩ = some (.int .i64 q.run)) (by kernel_rfl) ⟨A6.out.xb, n13z⟩ (fun hHeld => ?_)
            refine wpAnyH_take (i := 0) (oi := { dst := some 52, op := .load 55 (.tmp 4), type := 55, pos := _, after := _, guard := none }) (v := _) rfl (by kernel_rfl) (by kernel_rfl) (by kernel_rfl) (fun _ _ _ h => h) (yields_load_row (by rfl) 55 (.tmp 4) rfl gx rfl 55 #[.int .i64 q.sent, .int .i64 q.req, .int .i64 q.ans, .int .i64 q.plc, .bool q.ow, .int .i64 q.word, .int .i64 q.gone, .int .i64 q.s0, .int .i64 q.s1, .int .i64 q.r0, .int .i64 q.r1, .int .i64 q.taken, .int .u8 q.last, .int .i64 q.run] _ (fun w h => h.1) HU.out rfl (by kernel_rfl)) (by assumption) ?_
            simp only [Act.put, List.setIfInBounds_toArray, List.set_cons_zero, List.set_cons_succ]
            refine wpAnyH_take (i := 1) (oi := { dst := some 53, op := .move (.tmp 11), type := 4, pos := _, after := _, guard := none }) (v := .bool false) rfl (by kernel_rfl) (by kernel_rfl) (by kernel_rfl) (fun _ _ _ h => h) (Or.inl ⟨by rfl, by intro w hSw; (try dsimp only at hSw); obtain ⟨-, h13⟩ := hSw; go_simp⟩) (by assumption) ?_
            simp only [Act.put, List.setIfInBounds_toArray, List.set_cons_zero, List.set_cons_succ]
            refine wpAnyH_take (i := 2) (oi := { dst := some 54, op := .fieldAddr 55 (.tmp 4) 3, type := 0, pos := _, after := _, guard := none }) (v := .pointer (some ⟨gx, 13, none⟩)) rfl (by kernel_rfl) (by kernel_rfl) (by kernel_rfl) (fun _ _ _ h => h) (Or.inl ⟨by rfl, by intro w hSw; (try dsimp only at hSw); obtain ⟨-, h13⟩ := hSw; go_simp⟩) (by assumption) ?_
            simp only [Act.put, List.setIfInBounds_toArray, List.set_cons_zero, List.set_cons_succ]
            refine wpAnyH_take (i := 3) (oi := { dst := some 55, op := .load 2 (.tmp 54), type := 2, pos := _, after := _, guard := none }) (v := .int .i64 q.run) rfl (by kernel_rfl) (by kernel_rfl) (by kernel_rfl) (fun _ _ _ h => h) (Or.inl ⟨by rfl, by intro w hSw; (try dsimp only at hSw); obtain ⟨-, h13⟩ := hSw; go_simp⟩) (by assumption) ?_
            simp only [Act.put, List.setIfInBounds_toArray, List.set_cons_zero, List.set_cons_succ]
            refine wpAnyH_take (i := 4) (oi := { dst := some 56, op := .move (.tmp 3), type := 2, pos := _, after := _, guard := none }) (v := .int .i64 ratio) rfl (by kernel_rfl) (by kernel_rfl) (by kernel_rfl) (fun _ _ _ h => h) (Or.inl ⟨by rfl, by intro w hSw; (try dsimp only at hSw); obtain ⟨-, h13⟩ := hSw; go_simp⟩) (by assumption) ?_
            simp only [Act.put, List.setIfInBounds_toArray, List.set_cons_zero, List.set_cons_succ]
            refine wpAnyH_take (i := 5) (oi := { dst := some 57, op := .binOp .leq 2 (.tmp 55) (.tmp 56) 2, type := 4, pos := _, after := _, guard := none }) (v := .bool (decide (q.run ≤ ratio))) rfl (by kernel_rfl) (by kernel_rfl) (by kernel_rfl) (fun _ _ _ h => h) (Or.inl ⟨by rfl, by intro w hSw; (try dsimp only at hSw); obtain ⟨-, h13⟩ := hSw; go_simp⟩) (by assumption) ?_
            simp only [Act.put, List.setIfInBounds_toArray, List.set_cons_zero, List.set_cons_succ]
            refine wpAnyH_ready (rs := [6]) (by kernel_rfl) (by simp) ?_
            refine AllReadyH.cons (o := { dst := none, op := .store 55 (.tmp 8) (.tmp 52), type := 0, pos := _, after := _, guard := none }) rfl ?step3 ?more3
            case more3 => with_reducible exact AllReadyH.nil
            intro K hK
            rw [if_pos (by rfl)]
            refine wp_store_row 55 (.tmp 8) (.tmp 52) rfl gr #[.int .i64 q.sent, .int .i64 q.req, .int .i64 q.ans, .int .i64 q.plc, .bool q.ow, .int .i64 q.word, .int .i64 q.gone, .int .i64 q.s0, .int .i64 q.s1, .int .i64 q.r0, .int .i64 q.r1, .int .i64 q.taken, .int .u8 q.last, .int .i64 q.run] rfl rfl 55 _ A6.out.rb (by kernel_rfl) (by first | rfl | kernel_rfl) (by first | rfl | kernel_rfl | simp [Value.oneCell']) ?_
            obtain ⟨W9, hW9⟩ : ∃ W9, World.setRow (World.drew W6) gr #[.int .i64 q.sent, .int .i64 q.req, .int .i64 q.ans, .int .i64 q.plc, .bool q.ow, .int .i64 q.word, .int .i64 q.gone, .int .i64 q.s0, .int .i64 q.s1, .int .i64 q.r0, .int .i64 q.r1, .int .i64 q.taken, .int .u8 q.last, .int .i64 q.run] = W9 := ⟨_, rfl⟩
            rw [hW9]
            have R9 := Aside0.mk (show W9.heap[gr]? = some (boxN q) by rw [← hW9]; exact setRow_heap _ gr _ _ 55 (0, 0) A6.out.rb)
            have X9 := Aside0.mk (show W9.heap[gx]? = some (boxN q) by rw [← hW9, setRow_other _ gr gx _ A6.out.lo.2.2.2.1.symm]; exact A6.out.xb)
            have B9 := Aside0.mk (show Below w.heap.size w W9 from KB.low (show KB gr (World.drew W6) W9 by rw [← hW9]; exact ⟨rfl, rfl, rfl, by simp, fun i hi hne => setRow_other _ gr i _ hne⟩) (below_drew A6.out.bel) A6.out.lo.2.1)
            clear hW9
            refine hK.out _ _ ⟨X9.out, (blk_cell X9.out 13).trans rfl⟩ (fun hHeld => ?_)
            clear hK K
            refine wpAnyH_take (i := 7) (oi := { dst := some 9, op := .assign (.tmp 53), type := 4, pos := _, after := _, guard := none }) (v := .bool false) rfl (by kernel_rfl) (by kernel_rfl) (by kernel_rfl) (fun _ _ _ h => h) (Or.inl ⟨by rfl, by intro w hSw; (try dsimp only at hSw); obtain ⟨-, h13⟩ := hSw; go_simp⟩) (by assumption) ?_
            simp only [Act.put, List.setIfInBounds_toArray, List.set_cons_zero, List.set_cons_succ]
            refine wpAnyH_take (i := 8) (oi := { dst := some 10, op := .assign (.tmp 57), type := 4, pos := _, after := _, guard := none }) (v := .bool (decide (q.run ≤ ratio))) rfl (by kernel_rfl) (by kernel_rfl) (by kernel_rfl) (fun _ _ _ h => h) (Or.inl ⟨by rfl, by intro w hSw; (try dsimp only at hSw); obtain ⟨-, h13⟩ := hSw; go_simp⟩) (by assumption) ?_
            simp only [Act.put, List.setIfInBounds_toArray, List.set_cons_zero, List.set_cons_succ]
            refine wpAnyH_done (by kernel_rfl) ?_ _
            go_wp2
            refine bodyPost_ret (results_ctt rfl _ _ gr 55 #[.int .i64 q.sent, .int .i64 q.req, .int .i64 q.ans, .int .i64 q.plc, .bool q.ow, .int .i64 q.word, .int .i64 q.gone, .int .i64 q.s0, .int .i64 q.s1, .int .i64 q.r0, .int .i64 q.r1, .int .i64 q.taken, .int .u8 q.last, .int .i64 q.run] (0, 0) _ rfl R9.out HU.out rfl (by kernel_rfl)) rfl ?_
            exact ⟨by rw [← HR1.out, c1b, c2b, ← HK.out, ← hq]; rfl, B9.out⟩
        · have c1b : (v == z.taken) = false := beq_eq_false_iff_ne.2 c1
          clear c1
          go_upto_region 9 with (first
            | ((with_reducible refine gate_dst (N := 32) rfl ?_); refine load_row_event rfl 33 (.tmp 5) rfl gl rfl 33 #[.int .i64 l.ph, .int .i64 l.sg, .int .i64 l.sk, .int .i64 l.wd] _ A4.out.lb Try.underlying33 rfl (by kernel_rfl) ?_)
            | (go_at_call 55; (with_reducible refine (stepR.calls gx l y z v true _ A4.out.xb HZ.out).mono ?_); rintro e w5 ⟨rfl, hx5, hk5⟩; have A5 := Aside0.mk (NA.kb A4.out z hx5 hk5); clear hx5 hk5))
          clear n0 n1 n2 n3 n4 n5 n6 n7 n8 n9 n10 n11 n12 n13 y0 y1 y2 y3 y4 y5 y6 y7 y8 y9 y10 y11 y12 y13
          obtain ⟨n0, n1, n2, n3, n4, n5, n6, n7, n8, n9, n10, n11, n12, n13⟩ := n_cells A5.out.xb
          obtain ⟨y0, y1, y2, y3, y4, y5, y6, y7, y8, y9, y10, y11, y12, y13⟩ := n_frozen A5.out.xb
          obtain ⟨l0, l1, l2, l3⟩ := l_cells A5.out.lb
          go_upto_region 11 with (fail)
          obtain ⟨q, hq⟩ : ∃ q : LN, { z with taken := wrap64 (z.taken + 1) } = q := ⟨_, rfl⟩
          obtain ⟨W6, hW6⟩ : ∃ W6, World.setCell w5 ⟨gx, 11, none⟩ (.int .i64 (wrap64 (z.taken + 1))) = W6 := ⟨_, rfl⟩
          rw [hW6]
          have A6 := Aside0.mk (NA.kb (W' := W6) A5.out q (by rw [← hq, ← hW6]; exact blk_put A5.out.xb 11 (.int .i64 (wrap64 (z.taken + 1))) rfl) (by rw [← hW6]; exact KB.set (KB.refl gx _) 11 _))
          clear n0 n1 n2 n3 n4 n5 n6 n7 n8 n9 n10 n11 n12 n13 y0 y1 y2 y3 y4 y5 y6 y7 y8 y9 y10 y11 y12 y13 l0 l1 l2 l3
          have n13z := (blk_cell A6.out.xb 13).trans rfl
          refine wp_region_held_drew (S := fun w' => w'.heap[gx]? = some (boxN q) ∧ w'.cell? ⟨gx, 13, none⟩ = some (.int .i64 q.run)) (by kernel_rfl) ⟨A6.out.xb, n13z⟩ (fun hHeld => ?_)
          refine wpAnyH_take (i := 0) (oi := { dst := some 52, op := .load 55 (.tmp 4), type := 55, pos := _, after := _, guard := none }) (v := _) rfl (by kernel_rfl) (by kernel_rfl) (by kernel_rfl) (fun _ _ _ h => h) (yields_load_row (by rfl) 55 (.tmp 4) rfl gx rfl 55 #[.int .i64 q.sent, .int .i64 q.req, .int .i64 q.ans, .int .i64 q.plc, .bool q.ow, .int .i64 q.word, .int .i64 q.gone, .int .i64 q.s0, .int .i64 q.s1, .int .i64 q.r0, .int .i64 q.r1, .int .i64 q.taken, .int .u8 q.last, .int .i64 q.run] _ (fun w h => h.1) HU.out rfl (by kernel_rfl)) (by assumption) ?_
          simp only [Act.put, List.setIfInBounds_toArray, List.set_cons_zero, List.set_cons_succ]
          refine wpAnyH_take (i := 1) (oi := { dst := some 53, op := .move (.tmp 11), type := 4, pos := _, after := _, guard := none }) (v := .bool false) rfl (by kernel_rfl) (by kernel_rfl) (by kernel_rfl) (fun _ _ _ h => h) (Or.inl ⟨by rfl, by intro w hSw; (try dsimp only at hSw); obtain ⟨-, h13⟩ := hSw; go_simp⟩) (by assumption) ?_
          simp only [Act.put, List.setIfInBounds_toArray, List.set_cons_zero, List.set_cons_succ]
          refine wpAnyH_take (i := 2) (oi := { dst := some 54, op := .fieldAddr 55 (.tmp 4) 3, type := 0, pos := _, after := _, guard := none }) (v := .pointer (some ⟨gx, 13, none⟩)) rfl (by kernel_rfl) (by kernel_rfl) (by kernel_rfl) (fun _ _ _ h => h) (Or.inl ⟨by rfl, by intro w hSw; (try dsimp only at hSw); obtain ⟨-, h13⟩ := hSw; go_simp⟩) (by assumption) ?_
          simp only [Act.put, List.setIfInBounds_toArray, List.set_cons_zero, List.set_cons_succ]
          refine wpAnyH_take (i := 3) (oi := { dst := some 55, op := .load 2 (.tmp 54), type := 2, pos := _, after := _, guard := none }) (v := .int .i64 q.run) rfl (by kernel_rfl) (by kernel_rfl) (by kernel_rfl) (fun _ _ _ h => h) (Or.inl ⟨by rfl, by intro w hSw; (try dsimp only at hSw); obtain ⟨-, h13⟩ := hSw; go_simp⟩) (by assumption) ?_
          simp only [Act.put, List.setIfInBounds_toArray, List.set_cons_zero, List.set_cons_succ]
          refine wpAnyH_take (i := 4) (oi := { dst := some 56, op := .move (.tmp 3), type := 2, pos := _, after := _, guard := none }) (v := .int .i64 ratio) rfl (by kernel_rfl) (by kernel_rfl) (by kernel_rfl) (fun _ _ _ h => h) (Or.inl ⟨by rfl, by intro w hSw; (try dsimp only at hSw); obtain ⟨-, h13⟩ := hSw; go_simp⟩) (by assumption) ?_
          simp only [Act.put, List.setIfInBounds_toArray, List.set_cons_zero, List.set_cons_succ]
          refine wpAnyH_take (i := 5) (oi := { dst := some 57, op := .binOp .leq 2 (.tmp 55) (.tmp 56) 2, type := 4, pos := _, after := _, guard := none }) (v := .bool (decide (q.run ≤ ratio))) rfl (by kernel_rfl) (by kernel_rfl) (by kernel_rfl) (fun _ _ _ h => h) (Or.inl ⟨by rfl, by intro w hSw; (try dsimp only at hSw); obtain ⟨-, h13⟩ := hSw; go_simp⟩) (by assumption) ?_
          simp only [Act.put, List.setIfInBounds_toArray, List.set_cons_zero, List.set_cons_succ]
          refine wpAnyH_ready (rs := [6]) (by kernel_rfl) (by simp) ?_
          refine AllReadyH.cons (o := { dst := none, op := .store 55 (.tmp 8) (.tmp 52), type := 0, pos := _, after := _, guard := none }) rfl ?step4 ?more4
          case more4 => with_reducible exact AllReadyH.nil
          intro K hK
          rw [if_pos (by rfl)]
          refine wp_store_row 55 (.tmp 8) (.tmp 52) rfl gr #[.int .i64 q.sent, .int .i64 q.req, .int .i64 q.ans, .int .i64 q.plc, .bool q.ow, .int .i64 q.word, .int .i64 q.gone, .int .i64 q.s0, .int .i64 q.s1, .int .i64 q.r0, .int .i64 q.r1, .int .i64 q.taken, .int .u8 q.last, .int .i64 q.run] rfl rfl 55 _ A6.out.rb (by kernel_rfl) (by first | rfl | kernel_rfl) (by first | rfl | kernel_rfl | simp [Value.oneCell']) ?_
          obtain ⟨W9, hW9⟩ : ∃ W9, World.setRow (World.drew W6) gr #[.int .i64 q.sent, .int .i64 q.req, .int .i64 q.ans, .int .i64 q.plc, .bool q.ow, .int .i64 q.word, .int .i64 q.gone, .int .i64 q.s0, .int .i64 q.s1, .int .i64 q.r0, .int .i64 q.r1, .int .i64 q.taken, .int .u8 q.last, .int .i64 q.run] = W9 := ⟨_, rfl⟩
          rw [hW9]
          have R9 := Aside0.mk (show W9.heap[gr]? = some (boxN q) by rw [← hW9]; exact setRow_heap _ gr _ _ 55 (0, 0) A6.out.rb)
          have X9 := Aside0.mk (show W9.heap[gx]? = some (boxN q) by rw [← hW9, setRow_other _ gr gx _ A6.out.lo.2.2.2.1.symm]; exact A6.out.xb)
          have B9 := Aside0.mk (show Below w.heap.size w W9 from KB.low (show KB gr (World.drew W6) W9 by rw [← hW9]; exact ⟨rfl, rfl, rfl, by simp, fun i hi hne => setRow_other _ gr i _ hne⟩) (below_drew A6.out.bel) A6.out.lo.2.1)
          clear hW9
          refine hK.out _ _ ⟨X9.out, (blk_cell X9.out 13).trans rfl⟩ (fun hHeld => ?_)
          clear hK K
          refine wpAnyH_take (i := 7) (oi := { dst := some 9, op := .assign (.tmp 53), type := 4, pos := _, after := _, guard := none }) (v := .bool false) rfl (by kernel_rfl) (by kernel_rfl) (by kernel_rfl) (fun _ _ _ h => h) (Or.inl ⟨by rfl, by intro w hSw; (try dsimp only at hSw); obtain ⟨-, h13⟩ := hSw; go_simp⟩) (by assumption) ?_
          simp only [Act.put, List.setIfInBounds_toArray, List.set_cons_zero, List.set_cons_succ]
          refine wpAnyH_take (i := 8) (oi := { dst := some 10, op := .assign (.tmp 57), type := 4, pos := _, after := _, guard := none }) (v := .bool (decide (q.run ≤ ratio))) rfl (by kernel_rfl) (by kernel_rfl) (by kernel_rfl) (fun _ _ _ h => h) (Or.inl ⟨by rfl, by intro w hSw; (try dsimp only at hSw); obtain ⟨-, h13⟩ := hSw; go_simp⟩) (by assumption) ?_
          simp only [Act.put, List.setIfInBounds_toArray, List.set_cons_zero, List.set_cons_succ]
          refine wpAnyH_done (by kernel_rfl) ?_ _
          go_wp2
          refine bodyPost_ret (results_ctt rfl _ _ gr 55 #[.int .i64 q.sent, .int .i64 q.req, .int .i64 q.ans, .int .i64 q.plc, .bool q.ow, .int .i64 q.word, .int .i64 q.gone, .int .i64 q.s0, .int .i64 q.s1, .int .i64 q.r0, .int .i64 q.r1, .int .i64 q.taken, .int .u8 q.last, .int .i64 q.run] (0, 0) _ rfl R9.out HU.out rfl (by kernel_rfl)) rfl ?_
          exact ⟨by rw [← HR1.out, c1b, ← HK.out, ← hq]; rfl, B9.out⟩
end Go.Proofs.Ytgmnbpdfdagniaa.A
