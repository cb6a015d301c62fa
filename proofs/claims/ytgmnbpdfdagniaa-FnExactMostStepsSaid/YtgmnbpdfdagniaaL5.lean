/- The link: the program's searches and the reference's answer alike. No conditions. -/
import Derived.Test.YtgmnbpdfdagniaaZ35
namespace Go.Proofs.Ytgmnbpdfdagniaa.A
open Go.RowKit Go.Proofs.YtgmnbpdfdagniaaW.PrintWords Go.Proofs.YtgmnbpdfdagniaaW.PrintLast Go.Proofs.YtgmnbpdfdagniaaW.PrintMore
set_option linter.unusedVariables false
set_option linter.unusedSimpArgs false
def holdB (x : LN) (right : Bool) : Bool := !right
def holdW (l : Lnk) (x : LN) (right : Bool) : Bool := x.taken == l.wd
theorem RL.rg {l : Lnk} {ratio : Int} {x : LN} {y : S57} (hl : LOk l) (hr : 1 ≤ ratio ∧ ratio ≤ 4) (h : RL l ratio x y) : RG y :=
  h.r0.rg hl (by have := h.ls; omega) (by have := h.rn; omega)
theorem RL.ng {l : Lnk} {ratio : Int} {x : LN} {y : S57} (hl : LOk l) (hr : 1 ≤ ratio ∧ ratio ≤ 4) (h : RL l ratio x y) : NG x := by
  have hw := hl.wd
  obtain ⟨r0, ls, rn⟩ := h
  have b0 := r0.b0
  have b1 := r0.b1
  have b2 := r0.b2
  have b3 := r0.b3
  have b4 := r0.b4
  have b5 := r0.b5
  unfold Bit at b0 b1 b2 b3 b4 b5
  exact ⟨by have := r0.n0; omega, by omega, by omega, by have := r0.n1; omega, by have := r0.n3; omega, by have := r0.n4; omega, by omega, by omega, by omega, by omega, by have := r0.n5; omega, by omega, by omega⟩
theorem fault_pc {l : Lnk} {ratio : Int} (hl : LOk l) (hr : 1 ≤ ratio ∧ ratio ≤ 4) : PC l ratio true (fun y => ∃ x, RL l ratio x y) where
  rg := by rintro y ⟨x, h⟩; exact h.rg hl hr
  nohit := by
    rintro y ⟨x, h⟩
    have := h.r0.e9
    simp [hitK, this]
  stp := by
    rintro y c ⟨x, h⟩ hc
    obtain ⟨x', right, keeps, e1, ⟨rfl, y', e2⟩ | ⟨rfl, y', e2, e3, e4, e5, e6, e7, e8⟩⟩ := step_sim hl hr h c hc
    · exact ⟨y', false, e2, fun e => by cases e⟩
    · refine ⟨y', true, e2, fun _ => ⟨e6, e7, fun hh => ?_⟩⟩
      cases right with
      | true => exact ⟨x', e3 rfl⟩
      | false =>
        rw [if_neg (by decide)] at e4
        simp [hitK, e4] at hh
theorem fault_nc {l : Lnk} {ratio : Int} (hl : LOk l) (hr : 1 ≤ ratio ∧ ratio ≤ 4) : NC l ratio holdB (fun x => ∃ y, RL l ratio x y) where
  rg := by rintro x ⟨y, h⟩; exact h.ng hl hr
  stp := by
    rintro x c ⟨y, h⟩ hc
    obtain ⟨x', right, keeps, e1, ⟨rfl, y', e2⟩ | ⟨rfl, y', e2, e3, e4, e5, e6, e7, e8⟩⟩ := step_sim hl hr h c hc
    · exact ⟨x', right, false, e1, fun e => by cases e⟩
    · exact ⟨x', right, true, e1, fun _ _ hright => ⟨y', e3 hright⟩⟩
theorem fault_acc {l : Lnk} {ratio : Int} (hl : LOk l) (hr : 1 ≤ ratio ∧ ratio ≤ 4) (v : Nat) : (kSys l ratio true).acc v ↔ (nSys l ratio holdB).acc v := by
  refine acc_bisim (R := fun y x => RL l ratio x y) (RL.start hl hr.1) ?_ v
  intro y x c hc h
  obtain ⟨x', right, keeps, e1, ⟨rfl, y', e2⟩ | ⟨rfl, y', e2, e3, e4, e5, e6, e7, e8⟩⟩ := step_sim hl hr h c hc
  · exact .inl ⟨by simp [kSys, e2], by simp [nSys, e1]⟩
  · right
    cases right with
    | true =>
      rw [if_pos rfl] at e4
      exact ⟨y', x', false, by simp [kSys, e2, hitK, e4], by simp [nSys, e1, holdB], fun _ => e3 rfl⟩
    | false =>
      rw [if_neg (by decide)] at e4
      exact ⟨y', x', true, by simp [kSys, e2, hitK, e4], by simp [nSys, e1, holdB], fun e => by cases e⟩
theorem fault_ans {l : Lnk} {ratio : Int} (hl : LOk l) (hr : 1 ≤ ratio ∧ ratio ≤ 4) (K : Nat) (hK : 1099511627776 ≤ K) : ∃ r, lkF K l ratio true = some r ∧ foF K l ratio holdB = some r ∧ (nSys l ratio holdB).tells letK r := by
  obtain ⟨r, h1, h2⟩ := lk_tells (fault_pc hl hr) ⟨zN, RL.start hl hr.1⟩ K hK (fun e => by cases e.1)
  obtain ⟨r', h3, h4⟩ := fo_tells (fault_nc hl hr) ⟨x0K, RL.start hl hr.1⟩ K hK rfl
  have := tells_bisim (fault_acc hl hr) h2 h4
  subst this
  exact ⟨r, h1, h3, h4⟩
/-- What a safe link's nodes are. -/
def SafeN (l : Lnk) (ratio : Int) (x : LN) (y : S57) : Prop := RL l ratio x y ∧ ∃ v, (nSys l ratio holdB).run v = some x
theorem SafeN.start {l : Lnk} {ratio : Int} (hl : LOk l) (hr : 1 ≤ ratio) : SafeN l ratio zN x0K := ⟨RL.start hl hr, 0, Sys.run_zero _⟩
theorem safe_step {l : Lnk} {ratio : Int} (hl : LOk l) (hr : 1 ≤ ratio ∧ ratio ≤ 4) (hs : ∀ v, ¬ (nSys l ratio holdB).acc v) {x : LN} {y : S57} (h : SafeN l ratio x y) (c : Nat) (hc : c < 2) :
    ∃ x' keeps, (keeps = false ∧ (∃ right, afterN l (letOf c) ratio x = some (x', right, false)) ∧ ∃ y', nextF l ratio (c : Int) y = some (y', false)) ∨
      (keeps = true ∧ afterN l (letOf c) ratio x = some (x', true, true) ∧ ∃ y', nextF l ratio (c : Int) y = some (y', true) ∧ SafeN l ratio x' y' ∧ y'.f8 = x'.taken ∧ RG y' ∧ y'.f10 = (c : Int)) := by
  obtain ⟨h, v, hv⟩ := h
  obtain ⟨x', right, keeps, e1, ⟨rfl, y', e2⟩ | ⟨rfl, y', e2, e3, e4, e5, e6, e7, e8⟩⟩ := step_sim hl hr h c hc
  · exact ⟨x', false, .inl ⟨rfl, ⟨right, e1⟩, y', e2⟩⟩
  · cases right with
    | true =>
      refine ⟨x', true, .inr ⟨rfl, e1, y', e2, ⟨e3 rfl, 2 * v + 1 + c, ?_⟩, e5, e6, e7⟩⟩
      rw [Sys.run_succ _ v c hc, hv]
      simp [nSys, e1, holdB]
    | false =>
      exact absurd ⟨v, c, x, x', hc, rfl, hv, by simp [nSys, e1, holdB]⟩ (hs (2 * v + 1 + c))
theorem words_pc {l : Lnk} {ratio : Int} (hl : LOk l) (hr : 1 ≤ ratio ∧ ratio ≤ 4) (hs : ∀ v, ¬ (nSys l ratio holdB).acc v) : PC l ratio false (fun y => (∃ x, SafeN l ratio x y) ∧ ¬ y.f8 = l.wd) where
  rg := by rintro y ⟨⟨x, h⟩, _⟩; exact h.1.rg hl hr
  nohit := by
    rintro y ⟨_, h⟩
    simp [hitK, h]
  stp := by
    rintro y c ⟨⟨x, h⟩, _⟩ hc
    obtain ⟨x', keeps, ⟨rfl, _, y', e2⟩ | ⟨rfl, e1, y', e2, e3, e5, e6, e7⟩⟩ := safe_step hl hr hs h c hc
    · exact ⟨y', false, e2, fun e => by cases e⟩
    · refine ⟨y', true, e2, fun _ => ⟨e6, e7, fun hh => ⟨⟨x', e3⟩, ?_⟩⟩⟩
      intro e
      simp [hitK, e] at hh
theorem words_nc {l : Lnk} {ratio : Int} (hl : LOk l) (hr : 1 ≤ ratio ∧ ratio ≤ 4) (hs : ∀ v, ¬ (nSys l ratio holdB).acc v) : NC l ratio (holdW l) (fun x => ∃ y, SafeN l ratio x y) where
  rg := by rintro x ⟨y, h⟩; exact h.1.ng hl hr
  stp := by
    rintro x c ⟨y, h⟩ hc
    obtain ⟨x', keeps, ⟨rfl, ⟨right, e1⟩, y', e2⟩ | ⟨rfl, e1, y', e2, e3, e5, e6, e7⟩⟩ := safe_step hl hr hs h c hc
    · exact ⟨x', right, false, e1, fun e => by cases e⟩
    · exact ⟨x', true, true, e1, fun _ _ _ => ⟨y', e3⟩⟩
theorem words_acc {l : Lnk} {ratio : Int} (hl : LOk l) (hr : 1 ≤ ratio ∧ ratio ≤ 4) (hs : ∀ v, ¬ (nSys l ratio holdB).acc v) (v : Nat) : (kSys l ratio false).acc v ↔ (nSys l ratio (holdW l)).acc v := by
  refine acc_bisim (R := fun y x => SafeN l ratio x y) (SafeN.start hl hr.1) ?_ v
  intro y x c hc h
  obtain ⟨x', keeps, ⟨rfl, ⟨right, e1⟩, y', e2⟩ | ⟨rfl, e1, y', e2, e3, e5, e6, e7⟩⟩ := safe_step hl hr hs h c hc
  · exact .inl ⟨by simp [kSys, e2], by simp [nSys, e1]⟩
  · right
    by_cases hw : x'.taken = l.wd
    · exact ⟨y', x', true, by simp [kSys, e2, hitK, e5, hw], by simp [nSys, e1, holdW, hw], fun e => by cases e⟩
    · exact ⟨y', x', false, by simp [kSys, e2, hitK, e5, hw], by simp [nSys, e1, holdW, hw], fun _ => e3⟩
theorem words_ans {l : Lnk} {ratio : Int} (hl : LOk l) (hr : 1 ≤ ratio ∧ ratio ≤ 4) (hs : ∀ v, ¬ (nSys l ratio holdB).acc v) (K : Nat) (hK : 1099511627776 ≤ K) : ∃ r, lkF K l ratio false = some r ∧ foF K l ratio (holdW l) = some r := by
  by_cases hw : l.wd = 0
  · refine ⟨(ByteArray.empty, true), ?_, ?_⟩
    · unfold lkF; rw [if_pos ⟨rfl, hw⟩]
    · unfold foF; rw [if_pos (by unfold holdW; rw [hw]; rfl)]
  · obtain ⟨r, h1, h2⟩ := lk_tells (words_pc hl hr hs) ⟨⟨zN, SafeN.start hl hr.1⟩, fun e => hw e.symm⟩ K hK (fun e => hw e.2)
    obtain ⟨r', h3, h4⟩ := fo_tells (words_nc hl hr hs) ⟨x0K, SafeN.start hl hr.1⟩ K hK (by
      have : ¬ zN.taken = l.wd := fun e => hw e.symm
      simp [holdW, this])
    have := tells_bisim (words_acc hl hr hs) h2 h4
    subst this
    exact ⟨r, h1, h3⟩
theorem no_acc {l : Lnk} {ratio : Int} {r : ByteArray × Bool} (h : (nSys l ratio holdB).tells letK r) (hr : r.2 = false) : ∀ v, ¬ (nSys l ratio holdB).acc v := by
  rcases h with ⟨v, h1, h2, rfl⟩ | ⟨h1, rfl⟩
  · cases hr
  · exact h1
end Go.Proofs.Ytgmnbpdfdagniaa.A
