/- The pure side of FnExactJournalOf: for all lines the program's JournalOf and the reference's answer alike. No conditions. -/
import Derived.Test.YtjpjlobpglmoiaaDoorAPureOfFnExactJournalOf
import Derived.Test.YtjpjlobpglmoiaaDoorJournals
namespace Go.Proofs.YtjpjlobpglmoiaaDoor.Pure
set_option linter.unusedVariables false
set_option linter.unusedSimpArgs false
open Go.RowKit Go.Proofs.YtjpjlobpglmoiaaDoor.A Go.Proofs.YtjpjlobpglmoiaaDoorW.PrintWords Go.Proofs.YtjpjlobpglmoiaaDoorW.PrintLast Go.Proofs.YtjpjlobpglmoiaaDoorW.PrintMore
theorem FnExactJournalOf : laws_FnExactJournalOf.Pure := by
  intro l hw
  refine Ev.rounds ?_
  unfold laws_FnExactJournalOf.f
  obtain ⟨r, hr, hrr⟩ := ev_sz l 1048576 (by decide) (by decide) hw.1 hw.2
  refine Ev.bind hr ?_
  by_cases c : r < 0
  · simp only [if_pos c]; exact Ev.now _
  · simp only [if_neg c]
    have hb : bulk l + l.length ≤ 1048576 := by rcases hrr with h | h; exact absurd h c; omega
    have hs : ∀ s ∈ l, s.size ≤ 1048576 := fun s h => by have := bulk_mem h; omega
    have hto := ev_to l (by omega)
    have h1 : Ev (fun k => spec_JournalOf.f k l) (jourB l) := by
      have h := ev_specJour l [] (by simp; omega) (by simpa using hs) rfl (Nat.zero_le _)
      exact h
    have h2 : Ev (fun k => impl_JournalOf.f k l) (jourB l) := by
      have h := ev_implJour l [] (by simp; omega) (by simpa using hs) rfl (Nat.zero_le _)
      exact h
    refine Ev.bind hto (Ev.bind h1 (Ev.bind hto (Ev.bind h2 ?_)))
    simp only [if_true, bne_self_eq_false]
    refine Ev.step (f := fun k => (laws_toStringS.f k l).bind fun t => (laws_eqStringS.f k l t).bind fun s => if s = true then some true else some false) (fun k => rfl) ?_
    exact Ev.bind hto (Ev.bind (ev_eqs l (by omega)) (Ev.now _))
end Go.Proofs.YtjpjlobpglmoiaaDoor.Pure
