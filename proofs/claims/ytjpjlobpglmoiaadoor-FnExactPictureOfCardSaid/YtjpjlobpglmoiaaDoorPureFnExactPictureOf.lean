/- The pure side of FnExactPictureOf: for all scopes and ticks the program's PictureOf and the reference's answer alike. No conditions. -/
import Derived.Test.YtjpjlobpglmoiaaDoorAPureOfFnExactPictureOf
import Derived.Test.YtjpjlobpglmoiaaDoorPictures
namespace Go.Proofs.YtjpjlobpglmoiaaDoor.Pure
set_option linter.unusedVariables false
set_option linter.unusedSimpArgs false
open Go.RowKit Go.Proofs.YtjpjlobpglmoiaaDoor.A Go.Proofs.YtjpjlobpglmoiaaDoorW.PrintWords Go.Proofs.YtjpjlobpglmoiaaDoorW.PrintLast Go.Proofs.YtjpjlobpglmoiaaDoorW.PrintMore
theorem FnExactPictureOf : laws_FnExactPictureOf.Pure := by
  rintro ⟨l0, l1⟩ a b ⟨⟨h0, hs0⟩, ⟨h1, hs1⟩⟩ _ _
  refine Ev.rounds ?_
  show Ev (fun k => laws_FnExactPictureOf.f k l0 l1 a b) true
  unfold laws_FnExactPictureOf.f
  obtain ⟨r, hr, hrr⟩ := ev_szScope l0 l1 h0 h1 hs0 hs1
  refine Ev.bind hr ?_
  by_cases c : r < 0
  · simp only [if_pos c]; exact Ev.now _
  · simp only [if_neg c]
    have hb : bulk l0 + l0.length + bulk l1 + l1.length ≤ 1048576 := by rcases hrr with h | h; exact absurd h c; exact h.2
    have b0 : ∀ s ∈ l0, s.size ≤ 1048576 := fun s h => by have := bulk_mem h; omega
    have b1 : ∀ s ∈ l1, s.size ≤ 1048576 := fun s h => by have := bulk_mem h; omega
    have hto := ev_toScope l0 l1 (by omega) (by omega)
    have hs := ev_specPic l0 l1 a b b0 b1
    have hi := ev_implPic l0 l1 a b (by omega) (by omega) b0 b1
    obtain ⟨R, hR⟩ : ∃ R, picR l0 l1 a b = R := ⟨_, rfl⟩
    rw [hR] at hs hi
    refine Ev.bind hto (Ev.bind hs (Ev.bind hto (Ev.bind hi ?_)))
    simp only [if_true, bne_self_eq_false]
    refine Ev.step (f := fun k => (laws_toScope.f k l0 l1).bind fun t => (laws_eqScope.f k l0 l1 t.1 t.2).bind fun s => if s = true then some true else some false) (fun k => rfl) ?_
    exact Ev.bind hto (Ev.bind (ev_eqScope l0 l1 (by omega) (by omega)) (Ev.now _))
end Go.Proofs.YtjpjlobpglmoiaaDoor.Pure
