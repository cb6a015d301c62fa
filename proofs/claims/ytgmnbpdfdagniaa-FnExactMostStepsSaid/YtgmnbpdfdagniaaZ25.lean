/- Texts of this claim, put together by this session's pack2.py: each part is introduced by its own comment. No conditions. -/
import Derived.Test.YtgmnbpdfdagniaaZ24
/- The queue's small functions told as quiet ones, and a frame that lets one block change. No conditions. -/
namespace Go.Proofs.Ytgmnbpdfdagniaa.A
open Go.RowKit Go.Proofs.YtgmnbpdfdagniaaW.PrintWords Go.Proofs.YtgmnbpdfdagniaaW.PrintLast Go.Proofs.YtgmnbpdfdagniaaW.PrintMore
set_option linter.unusedVariables false
set_option linter.unusedSimpArgs false
/-- Only block g may have become another one. -/
structure KB (g : Nat) (w w' : World) : Prop where
  os : w'.os = w.os
  tape : w'.tape = w.tape
  output : w'.output = w.output
  size : w.heap.size ≤ w'.heap.size
  block : ∀ i, i < w.heap.size → i ≠ g → w'.heap[i]? = w.heap[i]?
theorem KB.refl (g : Nat) (w : World) : KB g w w := ⟨rfl, rfl, rfl, Nat.le_refl _, fun _ _ _ => rfl⟩
theorem KB.trans {g : Nat} {a b c : World} (h : KB g a b) (k : KB g b c) : KB g a c :=
  ⟨k.os.trans h.os, k.tape.trans h.tape, k.output.trans h.output, Nat.le_trans h.size k.size, fun i hi hg => (k.block i (Nat.lt_of_lt_of_le hi h.size) hg).trans (h.block i hi hg)⟩
theorem KB.of_below {g : Nat} {w w' : World} (h : Below w.heap.size w w') : KB g w w' := ⟨h.os, h.tape, h.output, h.size, fun i hi _ => h.block i hi⟩
theorem KB.below {g : Nat} {a b c : World} (h : KB g a b) (k : Below b.heap.size b c) : KB g a c := h.trans (KB.of_below k)
theorem KB.set {g : Nat} {a b : World} (h : KB g a b) (j : Nat) (u : Value) : KB g a (b.setCell ⟨g, j, none⟩ u) :=
  ⟨h.os, h.tape, h.output, by simpa [World.setCell] using h.size, fun i hi hg => (Below.heap_setCell b ⟨g, j, none⟩ u i hg).trans (h.block i hi hg)⟩
theorem KB.drewN {g : Nat} {a b : World} (h : KB g a b) (m : Nat) : KB g a (b.drewN m) := ⟨h.os, h.tape, h.output, h.size, h.block⟩
theorem KB.drew {g : Nat} {a b : World} (h : KB g a b) : KB g a b.drew := ⟨h.os, h.tape, h.output, h.size, h.block⟩
theorem KB.alloc {g : Nat} {a b : World} (h : KB g a b) (o : Obj) : KB g a (b.alloc o) := h.trans (KB.of_below (below_alloc (Below.refl _ _) o))
theorem KB.keep {g i : Nat} {a b : World} (h : KB g a b) {o : Obj} (hb : a.heap[i]? = some o) (hg : i ≠ g) : b.heap[i]? = some o := (h.block i (blk_lt hb) hg).trans hb
theorem KB.low {g : Nat} {w0 a b : World} (h : KB g a b) (k : Below w0.heap.size w0 a) (hg : w0.heap.size ≤ g) : Below w0.heap.size w0 b :=
  ⟨h.os.trans k.os, h.tape.trans k.tape, h.output.trans k.output, Nat.le_trans k.size h.size, fun i hi => (h.block i (Nat.lt_of_lt_of_le hi k.size) (by omega)).trans (k.block i hi)⟩
/-- Only blocks of S may have become other ones. -/
structure KS (S : Nat → Prop) (w w' : World) : Prop where
  os : w'.os = w.os
  tape : w'.tape = w.tape
  output : w'.output = w.output
  size : w.heap.size ≤ w'.heap.size
  block : ∀ i, i < w.heap.size → ¬ S i → w'.heap[i]? = w.heap[i]?
theorem KS.refl (S : Nat → Prop) (w : World) : KS S w w := ⟨rfl, rfl, rfl, Nat.le_refl _, fun _ _ _ => rfl⟩
theorem KS.trans {S : Nat → Prop} {a b c : World} (h : KS S a b) (k : KS S b c) : KS S a c :=
  ⟨k.os.trans h.os, k.tape.trans h.tape, k.output.trans h.output, Nat.le_trans h.size k.size, fun i hi hg => (k.block i (Nat.lt_of_lt_of_le hi h.size) hg).trans (h.block i hi hg)⟩
/-- What changes behind: blocks of S, or such as are newer. -/
theorem KS.then {S S' : Nat → Prop} {a b c : World} (h : KS S a b) (k : KS S' b c) (hs : ∀ i, i < a.heap.size → S' i → S i) : KS S a c :=
  ⟨k.os.trans h.os, k.tape.trans h.tape, k.output.trans h.output, Nat.le_trans h.size k.size, fun i hi hg => (k.block i (Nat.lt_of_lt_of_le hi h.size) (fun z => hg (hs i hi z))).trans (h.block i hi hg)⟩
theorem KS.of_below {S : Nat → Prop} {w w' : World} (h : Below w.heap.size w w') : KS S w w' := ⟨h.os, h.tape, h.output, h.size, fun i hi _ => h.block i hi⟩
theorem KS.of_KB {S : Nat → Prop} {g : Nat} {w w' : World} (h : KB g w w') (hs : S g) : KS S w w' := ⟨h.os, h.tape, h.output, h.size, fun i hi hn => h.block i hi (fun e => hn (e ▸ hs))⟩
theorem KS.below {S : Nat → Prop} {a b c : World} (h : KS S a b) (k : Below b.heap.size b c) : KS S a c := h.trans (KS.of_below k)
theorem KS.grown {S : Nat → Prop} {a b c : World} (h : KS S a b) {row : Option Nat} (k : b.grownBy c row) (ho : c.os = b.os) (ht : c.tape = b.tape) (hu : c.output = b.output) (hr : ∀ i, row = some i → i < a.heap.size → S i) : KS S a c :=
  ⟨ho.trans h.os, ht.trans h.tape, hu.trans h.output, Nat.le_trans h.size k.size, fun i hi hg => (k.block i (Nat.lt_of_lt_of_le hi h.size) (fun e => hg (hr i e.symm hi))).trans (h.block i hi hg)⟩
theorem KS.set {S : Nat → Prop} {a b : World} (h : KS S a b) (g j : Nat) (u : Value) (hg : g < a.heap.size → S g) : KS S a (b.setCell ⟨g, j, none⟩ u) :=
  ⟨h.os, h.tape, h.output, by simpa [World.setCell] using h.size, fun i hi hn => (Below.heap_setCell b ⟨g, j, none⟩ u i (fun e => hn (by subst e; exact hg hi))).trans (h.block i hi hn)⟩
theorem KS.drewN {S : Nat → Prop} {a b : World} (h : KS S a b) (m : Nat) : KS S a (b.drewN m) := ⟨h.os, h.tape, h.output, h.size, h.block⟩
theorem KS.drew {S : Nat → Prop} {a b : World} (h : KS S a b) : KS S a b.drew := ⟨h.os, h.tape, h.output, h.size, h.block⟩
theorem KS.alloc {S : Nat → Prop} {a b : World} (h : KS S a b) (o : Obj) : KS S a (b.alloc o) := h.below (below_alloc (Below.refl _ _) o)
theorem KS.keep {S : Nat → Prop} {i : Nat} {a b : World} (h : KS S a b) {o : Obj} (hb : a.heap[i]? = some o) (hg : ¬ S i) : b.heap[i]? = some o := (h.block i (blk_lt hb) hg).trans hb
theorem KS.low {S : Nat → Prop} {w0 a b : World} (h : KS S a b) (k : Below w0.heap.size w0 a) (hg : ∀ i, S i → w0.heap.size ≤ i) : Below w0.heap.size w0 b :=
  ⟨h.os.trans k.os, h.tape.trans k.tape, h.output.trans k.output, Nat.le_trans k.size h.size, fun i hi => (h.block i (Nat.lt_of_lt_of_le hi k.size) (fun z => by have := hg i z; omega)).trans (k.block i hi)⟩
/-- A world of which nothing is below. -/
def bare (w : World) : World := { w with heap := #[] }
theorem bare_below (w : World) : Below (bare w).heap.size (bare w) w := ⟨rfl, rfl, rfl, Nat.zero_le _, fun k hk => absurd hk (Nat.not_lt_zero _)⟩
theorem quiet_of_keep {w w' : World} {g : Nat} {o : Obj} (h0 : w.heap[g]? = some o) (h1 : w'.heap[g]? = some o) (hB : Below (bare w).heap.size (bare w) w') (hk : KeepBut w w' g none) : Below w.heap.size w w' :=
  ⟨hB.os, hB.tape, hB.output, hk.1, fun i hi => if e : i = g then by rw [e, h0, h1] else hk.2 i hi e (by simp)⟩
/-- A queue in memory. -/
def boxQ (q0 q1 : Int) : Obj := .cells #[.int .i64 q0, .int .i64 q1] 26 (0, 0)
def codeO (q0 q1 a : Int) : Option Int := (spec_l05Code.f q0 q1 a).bind fun b => some b.1
def countO (k : Nat) (q0 q1 a : Int) : Option Int := (spec_l05Count.f k q0 q1 a).bind fun b => some b.1
theorem code_same {q0 q1 a : Int} {b : Int × Int × Int} (h : spec_l05Code.f q0 q1 a = some b) : b.2 = (q0, q1) := by
  unfold spec_l05Code.f at h
  split at h
  · cases h
  · split at h <;> (cases h; rfl)
theorem count_same {a q0 q1 : Int} : ∀ (k : Nat) {i : Int} {b : Int × Int × Int}, spec_l05Count.l0 k a i q0 q1 = some b → b.2 = (q0, q1)
  | 0, i, b, h => by simp [spec_l05Count.l0] at h
  | k + 1, i, b, h => by
    simp only [spec_l05Count.l0] at h
    split at h
    · obtain ⟨c, hc, h⟩ := Option.bind_eq_some_iff.1 h
      have e := code_same hc
      have e1 : c.2.1 = q0 := congrArg Prod.fst e
      have e2 : c.2.2 = q1 := congrArg Prod.snd e
      split at h
      · cases h; rw [e1, e2]
      · rw [e1, e2] at h; exact count_same k h
    · cases h; rfl
theorem code_q (g : Nat) (q0 q1 a r : Int) (w : World) (hq : w.heap[g]? = some (boxQ q0 q1)) (h : codeO q0 q1 a = some r) :
    Calls Try.prog 52 #[.pointer (some ⟨g, 0, none⟩), .int .i64 a] w fun e w' => e = .returned (.int .i64 r) ∧ Below w.heap.size w w' := by
  obtain ⟨b, hb, h⟩ := Option.bind_eq_some_iff.1 h
  have e := code_same hb
  obtain ⟨b0, b1, b2⟩ := b
  cases h; injection e with e1 e2; subst e1; subst e2
  refine (spec_l05Code.calls g _ _ a b0 _ _ (bare w) w ⟨hq, Nat.zero_le _⟩ (bare_below w) hb).mono ?_
  rintro e w' ⟨he, hI, hB, hK⟩
  exact ⟨he, quiet_of_keep hq hI.1 hB hK⟩
theorem count_q (k g : Nat) (q0 q1 a r : Int) (w : World) (hq : w.heap[g]? = some (boxQ q0 q1)) (h : countO k q0 q1 a = some r) :
    Calls Try.prog 51 #[.pointer (some ⟨g, 0, none⟩), .int .i64 a] w fun e w' => e = .returned (.int .i64 r) ∧ Below w.heap.size w w' := by
  obtain ⟨b, hb, h⟩ := Option.bind_eq_some_iff.1 h
  have e := count_same k hb
  obtain ⟨b0, b1, b2⟩ := b
  cases h; injection e with e1 e2; subst e1; subst e2
  refine (spec_l05Count.calls k g _ _ a b0 _ _ (bare w) w ⟨hq, Nat.zero_le _⟩ (bare_below w) hb).mono ?_
  rintro e w' ⟨he, hI, hB, hK⟩
  exact ⟨he, quiet_of_keep hq hI.1 hB hK⟩
end Go.Proofs.Ytgmnbpdfdagniaa.A
/- A step of the sender and of the receiver of a link (the reference). No conditions. -/
namespace Go.Proofs.Ytgmnbpdfdagniaa.A
open Go.RowKit Go.Proofs.YtgmnbpdfdagniaaW.PrintWords Go.Proofs.YtgmnbpdfdagniaaW.PrintLast Go.Proofs.YtgmnbpdfdagniaaW.PrintMore
set_option linter.unusedVariables false
set_option linter.unusedSimpArgs false
structure Lnk where
  ph : Int
  sg : Int
  sk : Int
  wd : Int
def boxL (l : Lnk) : Obj := .cells #[.int .i64 l.ph, .int .i64 l.sg, .int .i64 l.sk, .int .i64 l.wd] 33 (0, 0)
def boxK (x : S57) : Obj := .cells #[.int .i64 x.f0, .int .i64 x.f1, .int .i64 x.f2, .int .i64 x.f3, .int .i64 x.f4, .int .i64 x.f5, .int .i64 x.f6, .int .i64 x.f7, .int .i64 x.f8, .int .i64 x.f9, .int .i64 x.f10, .int .i64 x.f11] 57 (0, 0)
theorem l_cells {w : World} {g : Nat} {l : Lnk} (h : w.heap[g]? = some (boxL l)) : w.cell? ⟨g, 0, none⟩ = some (.int .i64 l.ph) ∧ w.cell? ⟨g, 1, none⟩ = some (.int .i64 l.sg) ∧ w.cell? ⟨g, 2, none⟩ = some (.int .i64 l.sk) ∧ w.cell? ⟨g, 3, none⟩ = some (.int .i64 l.wd) := ⟨(blk_cell h 0).trans rfl, (blk_cell h 1).trans rfl, (blk_cell h 2).trans rfl, (blk_cell h 3).trans rfl⟩
theorem k_cells {w : World} {g : Nat} {x : S57} (h : w.heap[g]? = some (boxK x)) : w.cell? ⟨g, 0, none⟩ = some (.int .i64 x.f0) ∧ w.cell? ⟨g, 1, none⟩ = some (.int .i64 x.f1) ∧ w.cell? ⟨g, 2, none⟩ = some (.int .i64 x.f2) ∧ w.cell? ⟨g, 3, none⟩ = some (.int .i64 x.f3) ∧ w.cell? ⟨g, 4, none⟩ = some (.int .i64 x.f4) ∧ w.cell? ⟨g, 5, none⟩ = some (.int .i64 x.f5) ∧ w.cell? ⟨g, 6, none⟩ = some (.int .i64 x.f6) ∧ w.cell? ⟨g, 7, none⟩ = some (.int .i64 x.f7) ∧ w.cell? ⟨g, 8, none⟩ = some (.int .i64 x.f8) ∧ w.cell? ⟨g, 9, none⟩ = some (.int .i64 x.f9) ∧ w.cell? ⟨g, 10, none⟩ = some (.int .i64 x.f10) ∧ w.cell? ⟨g, 11, none⟩ = some (.int .i64 x.f11) := ⟨(blk_cell h 0).trans rfl, (blk_cell h 1).trans rfl, (blk_cell h 2).trans rfl, (blk_cell h 3).trans rfl, (blk_cell h 4).trans rfl, (blk_cell h 5).trans rfl, (blk_cell h 6).trans rfl, (blk_cell h 7).trans rfl, (blk_cell h 8).trans rfl, (blk_cell h 9).trans rfl, (blk_cell h 10).trans rfl, (blk_cell h 11).trans rfl⟩
theorem k_frozen {w : World} {g : Nat} {x : S57} (h : w.heap[g]? = some (boxK x)) : w.frozen? ⟨g, 0, none⟩ = false ∧ w.frozen? ⟨g, 1, none⟩ = false ∧ w.frozen? ⟨g, 2, none⟩ = false ∧ w.frozen? ⟨g, 3, none⟩ = false ∧ w.frozen? ⟨g, 4, none⟩ = false ∧ w.frozen? ⟨g, 5, none⟩ = false ∧ w.frozen? ⟨g, 6, none⟩ = false ∧ w.frozen? ⟨g, 7, none⟩ = false ∧ w.frozen? ⟨g, 8, none⟩ = false ∧ w.frozen? ⟨g, 9, none⟩ = false ∧ w.frozen? ⟨g, 10, none⟩ = false ∧ w.frozen? ⟨g, 11, none⟩ = false := ⟨blk_frozen h 0, blk_frozen h 1, blk_frozen h 2, blk_frozen h 3, blk_frozen h 4, blk_frozen h 5, blk_frozen h 6, blk_frozen h 7, blk_frozen h 8, blk_frozen h 9, blk_frozen h 10, blk_frozen h 11⟩
theorem drawn_quiet' {w w' : World} (h : Drawn0 w w') : ∃ m, w' = w.drewN m := by obtain ⟨m, rfl⟩ := h; exact ⟨m, rfl⟩
/-- What is on its way comes nearer. -/
def nearer (x : S57) : S57 := if 0 < x.f4 then (if wrap64 (x.f4 - 1) = 0 then { x with f4 := 0, f3 := x.f5, f5 := 0 } else { x with f4 := wrap64 (x.f4 - 1) }) else x
def sendF (l : Lnk) (x : S57) : Option S57 :=
  (spec_l05Seen.f l.sg x.f6 x.f1).bind fun s =>
  let y := nearer { x with f6 := s.2 }
  if l.ph = 4 ∧ x.f0 = 1 then (if s.1 = 1 then some { y with f0 := 0 } else some y)
  else if ¬ s.1 = x.f0 ∨ x.f2 = l.wd then some y
  else if l.sk = 0 then some { y with f0 := wrap64 (1 - x.f0), f3 := x.f2, f2 := wrap64 (x.f2 + 1) }
  else some { y with f0 := wrap64 (1 - x.f0), f4 := l.sk, f5 := x.f2, f2 := wrap64 (x.f2 + 1) }
def takeF (l : Lnk) (x : S57) : Option (S57 × Int × Bool) :=
  (spec_l05Seen.f l.sg x.f7 x.f0).bind fun s =>
  if s.1 = x.f1 then some ({ x with f7 := s.2 }, 0, false)
  else if l.ph = 4 ∧ s.1 = 0 then some ({ x with f7 := s.2, f1 := s.1 }, 0, false)
  else some ({ x with f7 := s.2, f1 := s.1, f9 := if ¬ x.f3 = x.f8 ∨ l.wd ≤ x.f8 then 1 else x.f9, f8 := if x.f8 < 7 then wrap64 (x.f8 + 1) else x.f8 }, x.f3, true)
set_option maxHeartbeats 6400000 in
set_option maxRecDepth 100000 in
theorem sendF.calls (g gx : Nat) (l : Lnk) (x : S57) (r : S57) (w : World) (hl : w.heap[g]? = some (boxL l)) (hx : w.heap[gx]? = some (boxK x)) (h : sendF l x = some r) :
    Calls Try.prog 49 #[.pointer (some ⟨g, 0, none⟩), .pointer (some ⟨gx, 0, none⟩)] w fun e w' => e = .returned (.tuple #[]) ∧ w'.heap[gx]? = some (boxK r) ∧ KB gx w w' := by
  have hne : g ≠ gx := by intro e; subst e; rw [hl] at hx; simp [boxL, boxK] at hx
  have hne' : gx ≠ g := fun e => hne e.symm
  replace h := Option.bind_eq_some_iff.1 h
  obtain ⟨⟨s1, s2⟩, hs, h⟩ := h
  have HS := Aside0.mk hs
  have X0 := Aside0.mk hx
  have L0 := Aside0.mk hl
  have HN := Aside0.mk hne
  obtain ⟨z0, z1, z2, z3⟩ := l_cells hl
  obtain ⟨x0, x1, x2, x3, x4, x5, x6, x7, x8, x9, x10, x11⟩ := k_cells hx
  obtain ⟨y0, y1, y2, y3, y4, y5, y6, y7, y8, y9, y10, y11⟩ := k_frozen hx
  clear hl hx hs
  dsimp only at h
  obtain ⟨y, hy⟩ : ∃ y, nearer { x with f6 := s2 } = y := ⟨_, rfl⟩
  have hy0 : x.f0 = y.f0 := by rw [← hy]; unfold nearer; split <;> (try split) <;> rfl
  have hy2 : x.f2 = y.f2 := by rw [← hy]; unfold nearer; split <;> (try split) <;> rfl
  rw [hy, hy0, hy2] at h
  have H := Aside0.mk h
  have HY := Aside0.mk hy
  clear h hy hy0 hy2
  go_enter Try.func49, Try.ntmps49
  go_wp2
  go_quiet (first
    | ((go_at_call 56; exact Calls.quiet_of ((spec_l05Seen.calls l.sg x.f6 x.f1 s1 s2 _ HS.out).mono fun e W hh => ⟨hh.1, drawn_quiet' hh.2⟩))))
  go_upto_if 30 with (fail)
  go_cut [4] from 7 (fun v4 wc => v4 = .int .i64 s1 ∧ Aside0 (wc.heap[gx]? = some (boxK y)) ∧ Aside0 (wc.heap[g]? = some (boxL l)) ∧ Aside0 (KB gx w wc))
  case first =>
    by_cases f0 : 0 < x.f4
    · have f0b := decide_eq_true f0
      rw [f0b]
      by_cases f1 : wrap64 (x.f4 - 1) = 0
      · have f1b : (wrap64 (x.f4 - 1) == 0) = true := beq_iff_eq.2 f1
        have hnr : nearer { x with f6 := s2 } = { x with f6 := s2, f4 := wrap64 (x.f4 - 1), f3 := x.f5, f5 := 0 } := by unfold nearer; rw [if_pos f0, if_pos f1, f1]
        clear f0 f1
        go_wp2
        go_meet
        case rel => exact ⟨rfl, ⟨by rw [← HY.out, hnr]; exact blk_put (blk_put (blk_put (blk_put (blk_drewN (X0.out) _) 6 _ rfl) 4 _ rfl) 3 _ rfl) 5 _ rfl⟩, ⟨blk_far (blk_far (blk_far (blk_far (blk_drewN (L0.out) _) HN.out _) HN.out _) HN.out _) HN.out _⟩, ⟨KB.set (KB.set (KB.set (KB.set (KB.drewN (KB.refl gx w) _) 6 _) 4 _) 3 _) 5 _⟩⟩
      · have f1b : (wrap64 (x.f4 - 1) == 0) = false := beq_eq_false_iff_ne.2 f1
        have hnr : nearer { x with f6 := s2 } = { x with f6 := s2, f4 := wrap64 (x.f4 - 1) } := by unfold nearer; rw [if_pos f0, if_neg f1]
        clear f0 f1
        go_wp2
        go_meet
        case rel => exact ⟨rfl, ⟨by rw [← HY.out, hnr]; exact blk_put (blk_put (blk_drewN (X0.out) _) 6 _ rfl) 4 _ rfl⟩, ⟨blk_far (blk_far (blk_drewN (L0.out) _) HN.out _) HN.out _⟩, ⟨KB.set (KB.set (KB.drewN (KB.refl gx w) _) 6 _) 4 _⟩⟩
    · have f0b := decide_eq_false f0
      rw [f0b]
      have hnr : nearer { x with f6 := s2 } = { x with f6 := s2 } := by unfold nearer; rw [if_neg f0]
      clear f0
      go_wp2
      go_meet
      case rel => exact ⟨rfl, ⟨by rw [← HY.out, hnr]; exact blk_put (blk_drewN (X0.out) _) 6 _ rfl⟩, ⟨blk_far (blk_drewN (L0.out) _) HN.out _⟩, ⟨KB.set (KB.drewN (KB.refl gx w) _) 6 _⟩⟩
  case rest =>
    obtain ⟨rfl, XC, LC, KC⟩ := hcut
    have h := H.out
    clear x0 x1 x2 x3 x4 x5 x6 x7 x8 x9 x10 x11 y0 y1 y2 y3 y4 y5 y6 y7 y8 y9 y10 y11 z0 z1 z2 z3
    obtain ⟨z0, z1, z2, z3⟩ := l_cells LC.out
    obtain ⟨x0, x1, x2, x3, x4, x5, x6, x7, x8, x9, x10, x11⟩ := k_cells XC.out
    obtain ⟨y0, y1, y2, y3, y4, y5, y6, y7, y8, y9, y10, y11⟩ := k_frozen XC.out
    by_cases p4 : l.ph = 4
    · have p4b : (l.ph == 4) = true := beq_iff_eq.2 p4
      by_cases r1 : y.f0 = 1
      · have r1b : (y.f0 == 1) = true := beq_iff_eq.2 r1
        rw [if_pos ⟨p4, r1⟩] at h
        by_cases e1 : s1 = 1
        · have e1b : (s1 == 1) = true := beq_iff_eq.2 e1
          rw [if_pos e1] at h
          clear p4 r1 e1
          have hr := Option.some.inj h
          subst hr
          clear h
          go_wp2
          first | go_end0 | ((try simp only [Exit.inBlock, Exit.then]); refine bodyPost_ret (results_none rfl _ _ _) rfl ?_)
          exact ⟨rfl, blk_put (XC.out) 0 _ rfl, KB.set (KC.out) 0 _⟩
        · have e1b : (s1 == 1) = false := beq_eq_false_iff_ne.2 e1
          rw [if_neg e1] at h
          clear p4 r1 e1
          have hr := Option.some.inj h
          subst hr
          clear h
          go_wp2
          first | go_end0 | ((try simp only [Exit.inBlock, Exit.then]); refine bodyPost_ret (results_none rfl _ _ _) rfl ?_)
          exact ⟨rfl, XC.out, KC.out⟩
      · have r1b : (y.f0 == 1) = false := beq_eq_false_iff_ne.2 r1
        rw [if_neg (fun z => r1 z.2)] at h
        clear p4 r1
        by_cases a1 : s1 = y.f0
        · have a1b : (s1 != y.f0) = false := bne_eq_false_iff_eq.2 a1
          by_cases a2 : y.f2 = l.wd
          · have a2b : (y.f2 == l.wd) = true := beq_iff_eq.2 a2
            rw [if_pos (.inr a2)] at h
            clear a1 a2
            have hr := Option.some.inj h
            subst hr
            clear h
            go_wp2
            go_quiet (fail)
            go_wp2
            first | go_end0 | ((try simp only [Exit.inBlock, Exit.then]); refine bodyPost_ret (results_none rfl _ _ _) rfl ?_)
            exact ⟨rfl, blk_drewN (XC.out) _, KB.drewN (KC.out) _⟩
          · have a2b : (y.f2 == l.wd) = false := beq_eq_false_iff_ne.2 a2
            rw [if_neg (fun z => z.elim (fun z => z a1) a2)] at h
            by_cases k0 : l.sk = 0
            · have k0b : (l.sk == 0) = true := beq_iff_eq.2 k0
              rw [if_pos k0] at h
              clear a1 a2 k0
              have hr := Option.some.inj h
              subst hr
              clear h
              go_wp2
              go_quiet (fail)
              go_wp2
              first | go_end0 | ((try simp only [Exit.inBlock, Exit.then]); refine bodyPost_ret (results_none rfl _ _ _) rfl ?_)
              exact ⟨rfl, blk_put (blk_put (blk_put (blk_drewN (XC.out) _) 0 _ rfl) 3 _ rfl) 2 _ rfl, KB.set (KB.set (KB.set (KB.drewN (KC.out) _) 0 _) 3 _) 2 _⟩
            · have k0b : (l.sk == 0) = false := beq_eq_false_iff_ne.2 k0
              rw [if_neg k0] at h
              clear a1 a2 k0
              have hr := Option.some.inj h
              subst hr
              clear h
              go_wp2
              go_quiet (fail)
              go_wp2
              first | go_end0 | ((try simp only [Exit.inBlock, Exit.then]); refine bodyPost_ret (results_none rfl _ _ _) rfl ?_)
              exact ⟨rfl, blk_put (blk_put (blk_put (blk_put (blk_drewN (XC.out) _) 0 _ rfl) 4 _ rfl) 5 _ rfl) 2 _ rfl, KB.set (KB.set (KB.set (KB.set (KB.drewN (KC.out) _) 0 _) 4 _) 5 _) 2 _⟩
        · have a1b : (s1 != y.f0) = true := bne_iff_ne.2 a1
          rw [if_pos (.inl a1)] at h
          clear a1
          have hr := Option.some.inj h
          subst hr
          clear h
          go_wp2
          go_quiet (fail)
          go_wp2
          first | go_end0 | ((try simp only [Exit.inBlock, Exit.then]); refine bodyPost_ret (results_none rfl _ _ _) rfl ?_)
          exact ⟨rfl, blk_drewN (XC.out) _, KB.drewN (KC.out) _⟩
    · have p4b : (l.ph == 4) = false := beq_eq_false_iff_ne.2 p4
      rw [if_neg (fun z => p4 z.1)] at h
      clear p4
      by_cases a1 : s1 = y.f0
      · have a1b : (s1 != y.f0) = false := bne_eq_false_iff_eq.2 a1
        by_cases a2 : y.f2 = l.wd
        · have a2b : (y.f2 == l.wd) = true := beq_iff_eq.2 a2
          rw [if_pos (.inr a2)] at h
          clear a1 a2
          have hr := Option.some.inj h
          subst hr
          clear h
          go_wp2
          go_quiet (fail)
          go_wp2
          first | go_end0 | ((try simp only [Exit.inBlock, Exit.then]); refine bodyPost_ret (results_none rfl _ _ _) rfl ?_)
          exact ⟨rfl, blk_drewN (XC.out) _, KB.drewN (KC.out) _⟩
        · have a2b : (y.f2 == l.wd) = false := beq_eq_false_iff_ne.2 a2
          rw [if_neg (fun z => z.elim (fun z => z a1) a2)] at h
          by_cases k0 : l.sk = 0
          · have k0b : (l.sk == 0) = true := beq_iff_eq.2 k0
            rw [if_pos k0] at h
            clear a1 a2 k0
            have hr := Option.some.inj h
            subst hr
            clear h
            go_wp2
            go_quiet (fail)
            go_wp2
            first | go_end0 | ((try simp only [Exit.inBlock, Exit.then]); refine bodyPost_ret (results_none rfl _ _ _) rfl ?_)
            exact ⟨rfl, blk_put (blk_put (blk_put (blk_drewN (XC.out) _) 0 _ rfl) 3 _ rfl) 2 _ rfl, KB.set (KB.set (KB.set (KB.drewN (KC.out) _) 0 _) 3 _) 2 _⟩
          · have k0b : (l.sk == 0) = false := beq_eq_false_iff_ne.2 k0
            rw [if_neg k0] at h
            clear a1 a2 k0
            have hr := Option.some.inj h
            subst hr
            clear h
            go_wp2
            go_quiet (fail)
            go_wp2
            first | go_end0 | ((try simp only [Exit.inBlock, Exit.then]); refine bodyPost_ret (results_none rfl _ _ _) rfl ?_)
            exact ⟨rfl, blk_put (blk_put (blk_put (blk_put (blk_drewN (XC.out) _) 0 _ rfl) 4 _ rfl) 5 _ rfl) 2 _ rfl, KB.set (KB.set (KB.set (KB.set (KB.drewN (KC.out) _) 0 _) 4 _) 5 _) 2 _⟩
      · have a1b : (s1 != y.f0) = true := bne_iff_ne.2 a1
        rw [if_pos (.inl a1)] at h
        clear a1
        have hr := Option.some.inj h
        subst hr
        clear h
        go_wp2
        go_quiet (fail)
        go_wp2
        first | go_end0 | ((try simp only [Exit.inBlock, Exit.then]); refine bodyPost_ret (results_none rfl _ _ _) rfl ?_)
        exact ⟨rfl, blk_drewN (XC.out) _, KB.drewN (KC.out) _⟩
end Go.Proofs.Ytgmnbpdfdagniaa.A
/- A step of the receiver of a link (the reference). No conditions. -/
namespace Go.Proofs.Ytgmnbpdfdagniaa.A
open Go.RowKit Go.Proofs.YtgmnbpdfdagniaaW.PrintWords Go.Proofs.YtgmnbpdfdagniaaW.PrintLast Go.Proofs.YtgmnbpdfdagniaaW.PrintMore
set_option linter.unusedVariables false
set_option linter.unusedSimpArgs false
set_option maxHeartbeats 6400000 in
set_option maxRecDepth 100000 in
theorem takeF.calls (g gx : Nat) (l : Lnk) (x : S57) (r : S57) (v : Int) (b : Bool) (w : World) (hl : w.heap[g]? = some (boxL l)) (hx : w.heap[gx]? = some (boxK x)) (h : takeF l x = some (r, v, b)) :
    Calls Try.prog 50 #[.pointer (some ⟨g, 0, none⟩), .pointer (some ⟨gx, 0, none⟩)] w fun e w' => e = .returned (.tuple #[.int .i64 v, .bool b]) ∧ w'.heap[gx]? = some (boxK r) ∧ KB gx w w' := by
  have hne : g ≠ gx := by intro e; subst e; rw [hl] at hx; simp [boxL, boxK] at hx
  have hne' : gx ≠ g := fun e => hne e.symm
  replace h := Option.bind_eq_some_iff.1 h
  obtain ⟨⟨s1, s2⟩, hs, h⟩ := h
  have HS := Aside0.mk hs
  have X0 := Aside0.mk hx
  have L0 := Aside0.mk hl
  have HN := Aside0.mk hne
  obtain ⟨z0, z1, z2, z3⟩ := l_cells hl
  obtain ⟨x0, x1, x2, x3, x4, x5, x6, x7, x8, x9, x10, x11⟩ := k_cells hx
  obtain ⟨y0, y1, y2, y3, y4, y5, y6, y7, y8, y9, y10, y11⟩ := k_frozen hx
  clear hl hx hs
  dsimp only at h
  by_cases t1 : s1 = x.f1
  · have t1b : (s1 == x.f1) = true := beq_iff_eq.2 t1
    rw [if_pos t1] at h
    have hr := Option.some.inj h
    clear h t1
    cases hr
    go_enter Try.func50, Try.ntmps50
    go_wp2
    go_quiet (first
      | ((go_at_call 56; exact Calls.quiet_of ((spec_l05Seen.calls l.sg x.f7 x.f0 s1 s2 _ HS.out).mono fun e W hh => ⟨hh.1, drawn_quiet' hh.2⟩))))
    go_wp2
    go_ret2
    exact ⟨rfl, blk_put (blk_drewN (X0.out) _) 7 _ rfl, KB.set (KB.drewN (KB.refl gx w) _) 7 _⟩
  · have t1b : (s1 == x.f1) = false := beq_eq_false_iff_ne.2 t1
    rw [if_neg t1] at h
    clear t1
    by_cases p4 : l.ph = 4
    · have p4b : (l.ph == 4) = true := beq_iff_eq.2 p4
      by_cases z1 : s1 = 0
      · have z1b : (s1 == 0) = true := beq_iff_eq.2 z1
        rw [if_pos ⟨p4, z1⟩] at h
        have hr := Option.some.inj h
        clear h p4 z1
        cases hr
        go_enter Try.func50, Try.ntmps50
        go_wp2
        go_quiet (first
          | ((go_at_call 56; exact Calls.quiet_of ((spec_l05Seen.calls l.sg x.f7 x.f0 s1 s2 _ HS.out).mono fun e W hh => ⟨hh.1, drawn_quiet' hh.2⟩))))
        go_wp2
        go_ret2
        exact ⟨rfl, blk_put (blk_put (blk_drewN (X0.out) _) 7 _ rfl) 1 _ rfl, KB.set (KB.set (KB.drewN (KB.refl gx w) _) 7 _) 1 _⟩
      · have z1b : (s1 == 0) = false := beq_eq_false_iff_ne.2 z1
        rw [if_neg (fun z => z1 z.2)] at h
        clear p4 z1
        by_cases d1 : x.f3 = x.f8
        · have d1b : (x.f3 != x.f8) = false := bne_eq_false_iff_eq.2 d1
          by_cases d2 : l.wd ≤ x.f8
          · have d2b := decide_eq_true d2
            rw [if_pos (show ¬ x.f3 = x.f8 ∨ l.wd ≤ x.f8 from .inr d2)] at h
            by_cases d3 : x.f8 < 7
            · have d3b := decide_eq_true d3
              rw [if_pos d3] at h
              have hr := Option.some.inj h
              clear h d3 d1 d2
              cases hr
              go_enter Try.func50, Try.ntmps50
              go_wp2
              go_quiet (first
                | ((go_at_call 56; exact Calls.quiet_of ((spec_l05Seen.calls l.sg x.f7 x.f0 s1 s2 _ HS.out).mono fun e W hh => ⟨hh.1, drawn_quiet' hh.2⟩))))
              go_wp2
              go_quiet (fail)
              go_wp2
              go_ret2
              exact ⟨rfl, blk_put (blk_put (blk_drewN (blk_put (blk_put (blk_drewN (X0.out) _) 7 _ rfl) 1 _ rfl) _) 9 _ rfl) 8 _ rfl, KB.set (KB.set (KB.drewN (KB.set (KB.set (KB.drewN (KB.refl gx w) _) 7 _) 1 _) _) 9 _) 8 _⟩
            · have d3b := decide_eq_false d3
              rw [if_neg d3] at h
              have hr := Option.some.inj h
              clear h d3 d1 d2
              cases hr
              go_enter Try.func50, Try.ntmps50
              go_wp2
              go_quiet (first
                | ((go_at_call 56; exact Calls.quiet_of ((spec_l05Seen.calls l.sg x.f7 x.f0 s1 s2 _ HS.out).mono fun e W hh => ⟨hh.1, drawn_quiet' hh.2⟩))))
              go_wp2
              go_quiet (fail)
              go_wp2
              go_ret2
              exact ⟨rfl, blk_put (blk_drewN (blk_put (blk_put (blk_drewN (X0.out) _) 7 _ rfl) 1 _ rfl) _) 9 _ rfl, KB.set (KB.drewN (KB.set (KB.set (KB.drewN (KB.refl gx w) _) 7 _) 1 _) _) 9 _⟩
          · have d2b := decide_eq_false d2
            rw [if_neg (show ¬ (¬ x.f3 = x.f8 ∨ l.wd ≤ x.f8) from fun z => z.elim (fun z => z d1) d2)] at h
            by_cases d3 : x.f8 < 7
            · have d3b := decide_eq_true d3
              rw [if_pos d3] at h
              have hr := Option.some.inj h
              clear h d3 d1 d2
              cases hr
              go_enter Try.func50, Try.ntmps50
              go_wp2
              go_quiet (first
                | ((go_at_call 56; exact Calls.quiet_of ((spec_l05Seen.calls l.sg x.f7 x.f0 s1 s2 _ HS.out).mono fun e W hh => ⟨hh.1, drawn_quiet' hh.2⟩))))
              go_wp2
              go_quiet (fail)
              go_wp2
              go_ret2
              exact ⟨rfl, blk_put (blk_drewN (blk_put (blk_put (blk_drewN (X0.out) _) 7 _ rfl) 1 _ rfl) _) 8 _ rfl, KB.set (KB.drewN (KB.set (KB.set (KB.drewN (KB.refl gx w) _) 7 _) 1 _) _) 8 _⟩
            · have d3b := decide_eq_false d3
              rw [if_neg d3] at h
              have hr := Option.some.inj h
              clear h d3 d1 d2
              cases hr
              go_enter Try.func50, Try.ntmps50
              go_wp2
              go_quiet (first
                | ((go_at_call 56; exact Calls.quiet_of ((spec_l05Seen.calls l.sg x.f7 x.f0 s1 s2 _ HS.out).mono fun e W hh => ⟨hh.1, drawn_quiet' hh.2⟩))))
              go_wp2
              go_quiet (fail)
              go_wp2
              go_ret2
              exact ⟨rfl, blk_drewN (blk_put (blk_put (blk_drewN (X0.out) _) 7 _ rfl) 1 _ rfl) _, KB.drewN (KB.set (KB.set (KB.drewN (KB.refl gx w) _) 7 _) 1 _) _⟩
        · have d1b : (x.f3 != x.f8) = true := bne_iff_ne.2 d1
          rw [if_pos (show ¬ x.f3 = x.f8 ∨ l.wd ≤ x.f8 from .inl d1)] at h
          by_cases d3 : x.f8 < 7
          · have d3b := decide_eq_true d3
            rw [if_pos d3] at h
            have hr := Option.some.inj h
            clear h d3 d1
            cases hr
            go_enter Try.func50, Try.ntmps50
            go_wp2
            go_quiet (first
              | ((go_at_call 56; exact Calls.quiet_of ((spec_l05Seen.calls l.sg x.f7 x.f0 s1 s2 _ HS.out).mono fun e W hh => ⟨hh.1, drawn_quiet' hh.2⟩))))
            go_wp2
            go_quiet (fail)
            go_wp2
            go_ret2
            exact ⟨rfl, blk_put (blk_put (blk_drewN (blk_put (blk_put (blk_drewN (X0.out) _) 7 _ rfl) 1 _ rfl) _) 9 _ rfl) 8 _ rfl, KB.set (KB.set (KB.drewN (KB.set (KB.set (KB.drewN (KB.refl gx w) _) 7 _) 1 _) _) 9 _) 8 _⟩
          · have d3b := decide_eq_false d3
            rw [if_neg d3] at h
            have hr := Option.some.inj h
            clear h d3 d1
            cases hr
            go_enter Try.func50, Try.ntmps50
            go_wp2
            go_quiet (first
              | ((go_at_call 56; exact Calls.quiet_of ((spec_l05Seen.calls l.sg x.f7 x.f0 s1 s2 _ HS.out).mono fun e W hh => ⟨hh.1, drawn_quiet' hh.2⟩))))
            go_wp2
            go_quiet (fail)
            go_wp2
            go_ret2
            exact ⟨rfl, blk_put (blk_drewN (blk_put (blk_put (blk_drewN (X0.out) _) 7 _ rfl) 1 _ rfl) _) 9 _ rfl, KB.set (KB.drewN (KB.set (KB.set (KB.drewN (KB.refl gx w) _) 7 _) 1 _) _) 9 _⟩
    · have p4b : (l.ph == 4) = false := beq_eq_false_iff_ne.2 p4
      rw [if_neg (fun z => p4 z.1)] at h
      clear p4
      by_cases d1 : x.f3 = x.f8
      · have d1b : (x.f3 != x.f8) = false := bne_eq_false_iff_eq.2 d1
        by_cases d2 : l.wd ≤ x.f8
        · have d2b := decide_eq_true d2
          rw [if_pos (show ¬ x.f3 = x.f8 ∨ l.wd ≤ x.f8 from .inr d2)] at h
          by_cases d3 : x.f8 < 7
          · have d3b := decide_eq_true d3
            rw [if_pos d3] at h
            have hr := Option.some.inj h
            clear h d3 d1 d2
            cases hr
            go_enter Try.func50, Try.ntmps50
            go_wp2
            go_quiet (first
              | ((go_at_call 56; exact Calls.quiet_of ((spec_l05Seen.calls l.sg x.f7 x.f0 s1 s2 _ HS.out).mono fun e W hh => ⟨hh.1, drawn_quiet' hh.2⟩))))
            go_wp2
            go_quiet (fail)
            go_wp2
            go_ret2
            exact ⟨rfl, blk_put (blk_put (blk_drewN (blk_put (blk_put (blk_drewN (X0.out) _) 7 _ rfl) 1 _ rfl) _) 9 _ rfl) 8 _ rfl, KB.set (KB.set (KB.drewN (KB.set (KB.set (KB.drewN (KB.refl gx w) _) 7 _) 1 _) _) 9 _) 8 _⟩
          · have d3b := decide_eq_false d3
            rw [if_neg d3] at h
            have hr := Option.some.inj h
            clear h d3 d1 d2
            cases hr
            go_enter Try.func50, Try.ntmps50
            go_wp2
            go_quiet (first
              | ((go_at_call 56; exact Calls.quiet_of ((spec_l05Seen.calls l.sg x.f7 x.f0 s1 s2 _ HS.out).mono fun e W hh => ⟨hh.1, drawn_quiet' hh.2⟩))))
            go_wp2
            go_quiet (fail)
            go_wp2
            go_ret2
            exact ⟨rfl, blk_put (blk_drewN (blk_put (blk_put (blk_drewN (X0.out) _) 7 _ rfl) 1 _ rfl) _) 9 _ rfl, KB.set (KB.drewN (KB.set (KB.set (KB.drewN (KB.refl gx w) _) 7 _) 1 _) _) 9 _⟩
        · have d2b := decide_eq_false d2
          rw [if_neg (show ¬ (¬ x.f3 = x.f8 ∨ l.wd ≤ x.f8) from fun z => z.elim (fun z => z d1) d2)] at h
          by_cases d3 : x.f8 < 7
          · have d3b := decide_eq_true d3
            rw [if_pos d3] at h
            have hr := Option.some.inj h
            clear h d3 d1 d2
            cases hr
            go_enter Try.func50, Try.ntmps50
            go_wp2
            go_quiet (first
              | ((go_at_call 56; exact Calls.quiet_of ((spec_l05Seen.calls l.sg x.f7 x.f0 s1 s2 _ HS.out).mono fun e W hh => ⟨hh.1, drawn_quiet' hh.2⟩))))
            go_wp2
            go_quiet (fail)
            go_wp2
            go_ret2
            exact ⟨rfl, blk_put (blk_drewN (blk_put (blk_put (blk_drewN (X0.out) _) 7 _ rfl) 1 _ rfl) _) 8 _ rfl, KB.set (KB.drewN (KB.set (KB.set (KB.drewN (KB.refl gx w) _) 7 _) 1 _) _) 8 _⟩
          · have d3b := decide_eq_false d3
            rw [if_neg d3] at h
            have hr := Option.some.inj h
            clear h d3 d1 d2
            cases hr
            go_enter Try.func50, Try.ntmps50
            go_wp2
            go_quiet (first
              | ((go_at_call 56; exact Calls.quiet_of ((spec_l05Seen.calls l.sg x.f7 x.f0 s1 s2 _ HS.out).mono fun e W hh => ⟨hh.1, drawn_quiet' hh.2⟩))))
            go_wp2
            go_quiet (fail)
            go_wp2
            go_ret2
            exact ⟨rfl, blk_drewN (blk_put (blk_put (blk_drewN (X0.out) _) 7 _ rfl) 1 _ rfl) _, KB.drewN (KB.set (KB.set (KB.drewN (KB.refl gx w) _) 7 _) 1 _) _⟩
      · have d1b : (x.f3 != x.f8) = true := bne_iff_ne.2 d1
        rw [if_pos (show ¬ x.f3 = x.f8 ∨ l.wd ≤ x.f8 from .inl d1)] at h
        by_cases d3 : x.f8 < 7
        · have d3b := decide_eq_true d3
          rw [if_pos d3] at h
          have hr := Option.some.inj h
          clear h d3 d1
          cases hr
          go_enter Try.func50, Try.ntmps50
          go_wp2
          go_quiet (first
            | ((go_at_call 56; exact Calls.quiet_of ((spec_l05Seen.calls l.sg x.f7 x.f0 s1 s2 _ HS.out).mono fun e W hh => ⟨hh.1, drawn_quiet' hh.2⟩))))
          go_wp2
          go_quiet (fail)
          go_wp2
          go_ret2
          exact ⟨rfl, blk_put (blk_put (blk_drewN (blk_put (blk_put (blk_drewN (X0.out) _) 7 _ rfl) 1 _ rfl) _) 9 _ rfl) 8 _ rfl, KB.set (KB.set (KB.drewN (KB.set (KB.set (KB.drewN (KB.refl gx w) _) 7 _) 1 _) _) 9 _) 8 _⟩
        · have d3b := decide_eq_false d3
          rw [if_neg d3] at h
          have hr := Option.some.inj h
          clear h d3 d1
          cases hr
          go_enter Try.func50, Try.ntmps50
          go_wp2
          go_quiet (first
            | ((go_at_call 56; exact Calls.quiet_of ((spec_l05Seen.calls l.sg x.f7 x.f0 s1 s2 _ HS.out).mono fun e W hh => ⟨hh.1, drawn_quiet' hh.2⟩))))
          go_wp2
          go_quiet (fail)
          go_wp2
          go_ret2
          exact ⟨rfl, blk_put (blk_drewN (blk_put (blk_put (blk_drewN (X0.out) _) 7 _ rfl) 1 _ rfl) _) 9 _ rfl, KB.set (KB.drewN (KB.set (KB.set (KB.drewN (KB.refl gx w) _) 7 _) 1 _) _) 9 _⟩
end Go.Proofs.Ytgmnbpdfdagniaa.A
