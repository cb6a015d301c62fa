/- The pure side of FnExactValidScope: for all scopes the program's ValidScope and the reference's answer alike. No conditions. -/
import Derived.Test.YtjpjlobpglmoiaaDoorAPureOfFnExactValidScope
import Derived.Test.YtjpjlobpglmoiaaDoorScopes
namespace Go.Proofs.YtjpjlobpglmoiaaDoor.Pure
set_option linter.unusedVariables false
set_option linter.unusedSimpArgs false
open Go.RowKit Go.Proofs.YtjpjlobpglmoiaaDoor.A Go.Proofs.YtjpjlobpglmoiaaDoorW.PrintWords Go.Proofs.YtjpjlobpglmoiaaDoorW.PrintLast Go.Proofs.YtjpjlobpglmoiaaDoorW.PrintMore
theorem FnExactValidScope : laws_FnExactValidScope.Pure := by
  rintro ⟨l0, l1⟩ ⟨⟨h0, hs0⟩, ⟨h1, hs1⟩⟩
  refine Ev.rounds ?_
  show Ev (fun k => laws_FnExactValidScope.f k l0 l1) true
  unfold laws_FnExactValidScope.f
  obtain ⟨r, hr, hrr⟩ := ev_szScope l0 l1 h0 h1 hs0 hs1
  refine Ev.bind hr ?_
  by_cases c : r < 0
  · simp only [if_pos c]; exact Ev.now _
  · simp only [if_neg c]
    have hb : bulk l0 + l0.length + bulk l1 + l1.length ≤ 1048576 := by rcases hrr with h | h; exact absurd h c; exact h.2
    have b0 : ∀ s ∈ l0, s.size ≤ 1048576 := fun s h => by have := bulk_mem h; omega
    have b1 : ∀ s ∈ l1, s.size ≤ 1048576 := fun s h => by have := bulk_mem h; omega
    refine Ev.bind (ev_toScope l0 l1 (by omega) (by omega)) ?_
    refine Ev.bind (a := scopeB l0 l1) (ev_const (fun _ => specScope l0 l1 b0 b1)) ?_
    refine Ev.bind (ev_toScope l0 l1 (by omega) (by omega)) ?_
    refine Ev.bind (ev_implScope l0 l1 (by omega) (by omega) b0 b1) ?_
    simp only [bne_self_eq_false, if_neg (show ¬ (false = true) by decide)]
    refine Ev.bind (ev_toScope l0 l1 (by omega) (by omega)) ?_
    refine Ev.bind (ev_eqScope l0 l1 (by omega) (by omega)) ?_
    simp only [if_true]
    exact Ev.now _
end Go.Proofs.YtjpjlobpglmoiaaDoor.Pure
