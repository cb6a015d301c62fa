/- The pure side of FnExactRecoverJournal: for all texts the program's RecoverJournal and the reference's answer alike. No conditions. -/
import Derived.Test.YtjpjlobpglmoiaaDoorAPureOfFnExactRecoverJournal
import Derived.Test.YtjpjlobpglmoiaaDoorRecover
import Derived.Test.YtjpjlobpglmoiaaDoorStrMarks
namespace Go.Proofs.YtjpjlobpglmoiaaDoor.Pure
set_option linter.unusedVariables false
set_option linter.unusedSimpArgs false
open Go.RowKit Go.Proofs.YtjpjlobpglmoiaaDoor.A Go.Proofs.YtjpjlobpglmoiaaDoorW.PrintWords Go.Proofs.YtjpjlobpglmoiaaDoorW.PrintLast Go.Proofs.YtjpjlobpglmoiaaDoorW.PrintMore
theorem FnExactRecoverJournal : laws_FnExactRecoverJournal.Pure := by
  intro t hw
  refine Ev.rounds ?_
  unfold laws_FnExactRecoverJournal.f
  by_cases c : (t.size : Int) > 1048576
  · simp only [if_pos c]; exact Ev.now _
  · simp only [if_neg c]
    have hlen := recR_len t
    have h1 := ev_specR t
    have h2 := ev_implR t
    obtain ⟨R, hR⟩ : ∃ R, recR t = R := ⟨_, rfl⟩
    rw [hR] at hlen h1 h2
    obtain ⟨L, n, ok⟩ := R
    replace hlen : L.length ≤ 4000 := hlen
    obtain ⟨mt, hmt⟩ := ev_mt
    have hm := ev_mark mt hmt L [] 1 0 rfl (by simp; omega) (by decide) (by omega)
    have hh := ev_held mt hmt L [] 1 0 rfl (by simp; omega) (by decide) (by omega)
    rw [List.nil_append, List.nil_append] at hm
    rw [List.nil_append] at hh
    refine Ev.bind h1 (Ev.bind h2 (Ev.bind (ev_eqs L (by omega)) ?_))
    simp only [if_true, bne_self_eq_false]
    refine Ev.step (f := fun k => (laws_markStringS.f k L 1).bind fun r => (laws_heldStringS.f k r.2 1).bind fun q => if q < 0 then some false else if q = r.1 then ((impl_RecoverJournal.f k t).bind fun s => (laws_eqStringS.f k s.1 L).bind fun z => if z = true then (if s.2.1 = n then laws_FnExactRecoverJournal.j1 k r.2 r.1 (s.2.2 != ok) else laws_FnExactRecoverJournal.j1 k r.2 r.1 true) else laws_FnExactRecoverJournal.j1 k r.2 r.1 true) else some false) (fun k => rfl) ?_
    refine Ev.bind hm (Ev.bind hh ?_)
    simp only [if_neg (show ¬ (1 + (L.length : Int)) < 0 by omega), if_true]
    refine Ev.bind h2 (Ev.bind (ev_eqs L (by omega)) ?_)
    simp only [if_true, bne_self_eq_false]
    refine Ev.step (f := fun k => (laws_heldStringS.f k (smarked mt 1 L) 1).bind fun q => if q < 0 then some false else if q = 1 + (L.length : Int) then some true else some false) (fun k => rfl) ?_
    refine Ev.bind hh ?_
    simp only [if_neg (show ¬ (1 + (L.length : Int)) < 0 by omega), if_true]
    exact Ev.now _
end Go.Proofs.YtjpjlobpglmoiaaDoor.Pure
