/- The link: what both sides answer. No conditions. -/
import Derived.Test.YtgmnbpdfdagniaaL5
import Derived.Test.YtgmnbpdfdagniaaM3
import Derived.Test.YtgmnbpdfdagniaaA27
import Derived.Test.YtgmnbpdfdagniaaZ24
import Derived.Test.YtgmnbpdfdagniaaA30
namespace Go.Proofs.Ytgmnbpdfdagniaa.A
open Go.RowKit Go.Proofs.YtgmnbpdfdagniaaW.PrintWords Go.Proofs.YtgmnbpdfdagniaaW.PrintLast Go.Proofs.YtgmnbpdfdagniaaW.PrintMore
set_option linter.unusedVariables false
set_option linter.unusedSimpArgs false
def bigN : Nat := 1099511627776
def linkV (l : Lnk) : Bool := decide ((l.ph = 2 ∨ l.ph = 4) ∧ (0 ≤ l.sg ∧ l.sg ≤ 2) ∧ (0 ≤ l.sk ∧ l.sk ≤ 2) ∧ (0 ≤ l.wd ∧ l.wd ≤ 4))
def ratioV (ratio : Int) : Bool := decide (1 ≤ ratio ∧ ratio ≤ 4)
def ansL (l : Lnk) (ratio : Int) (fault : Bool) : ByteArray × Bool := (lkF bigN l ratio fault).getD (ByteArray.empty, false)
theorem linkV_ok {l : Lnk} (h : linkV l = true) : LOk l := by
  have h := of_decide_eq_true h
  exact ⟨h.1, by omega, h.2.2.1, h.2.2.2⟩
theorem ansL_fault {l : Lnk} {ratio : Int} (h : linkV l = true) (hr : ratioV ratio = true) : lkF bigN l ratio true = some (ansL l ratio true) ∧ foF bigN l ratio holdB = some (ansL l ratio true) ∧ (nSys l ratio holdB).tells letK (ansL l ratio true) := by
  obtain ⟨r, h1, h2, h3⟩ := fault_ans (linkV_ok h) (of_decide_eq_true hr) bigN (Nat.le_refl _)
  have e : ansL l ratio true = r := by unfold ansL; rw [h1]; rfl
  rw [e]
  exact ⟨h1, h2, h3⟩
theorem ansL_words {l : Lnk} {ratio : Int} (h : linkV l = true) (hr : ratioV ratio = true) (hs : (ansL l ratio true).2 = false) : lkF bigN l ratio false = some (ansL l ratio false) ∧ foF bigN l ratio (holdW l) = some (ansL l ratio false) := by
  obtain ⟨r, h1, h2⟩ := words_ans (linkV_ok h) (of_decide_eq_true hr) (no_acc (ansL_fault h hr).2.2 hs) bigN (Nat.le_refl _)
  have e : ansL l ratio false = r := by unfold ansL; rw [h1]; rfl
  rw [e]
  exact ⟨h1, h2⟩
theorem in_is (a b c : Int) : spec_l00In.f a b c = some (decide (b ≤ a ∧ a ≤ c)) := by
  unfold spec_l00In.f
  by_cases h : a ≥ b
  · rw [if_pos h]; congr 1; rw [decide_eq_decide]; omega
  · rw [if_neg h, decide_eq_false (fun z => h z.1)]
theorem within_i (a b c : Int) : impl_within.f a b c = some (decide (b ≤ a ∧ a ≤ c)) := by
  unfold impl_within.f
  by_cases h : b ≤ a
  · rw [if_pos h]; congr 1; rw [decide_eq_decide]; omega
  · rw [if_neg h, decide_eq_false (fun z => h z.1)]
theorem linkV_spec (l : Lnk) : spec_l05Link.f l.ph l.sg l.sk l.wd = some (linkV l, l.ph, l.sg, l.sk, l.wd) := by
  unfold spec_l05Link.f linkV
  simp only [in_is, Option.bind_some, decide_eq_true_eq]
  by_cases h2 : l.ph = 2
  · rw [if_pos h2]
    by_cases h3 : 0 ≤ l.sg ∧ l.sg ≤ 2
    · rw [if_pos h3]
      by_cases h4 : 0 ≤ l.sk ∧ l.sk ≤ 2
      · rw [if_pos h4]; simp [h2, h3, h4]
      · rw [if_neg h4, decide_eq_false (fun z => h4 z.2.2.1)]
    · rw [if_neg h3, decide_eq_false (fun z => h3 z.2.1)]
  · rw [if_neg h2]
    by_cases h5 : l.ph = 4
    · rw [if_pos h5]
      by_cases h3 : 0 ≤ l.sg ∧ l.sg ≤ 2
      · rw [if_pos h3]
        by_cases h4 : 0 ≤ l.sk ∧ l.sk ≤ 2
        · rw [if_pos h4]; simp [h5, h3, h4]
        · rw [if_neg h4, decide_eq_false (fun z => h4 z.2.2.1)]
      · rw [if_neg h3, decide_eq_false (fun z => h3 z.2.1)]
    · rw [if_neg h5, decide_eq_false (fun z => z.1.elim h2 h5)]
theorem linkV_impl (l : Lnk) : impl_ValidLink.f l.ph l.sg l.sk l.wd = some (linkV l) := by
  unfold impl_ValidLink.f linkV
  simp only [within_i, Option.bind_some, decide_eq_true_eq]
  by_cases h2 : l.ph = 2
  · rw [if_pos h2]
    by_cases h3 : 0 ≤ l.sg ∧ l.sg ≤ 2
    · rw [if_pos h3]
      by_cases h4 : 0 ≤ l.sk ∧ l.sk ≤ 2
      · rw [if_pos h4]; simp [h2, h3, h4]
      · rw [if_neg h4, decide_eq_false (fun z => h4 z.2.2.1)]
    · rw [if_neg h3, decide_eq_false (fun z => h3 z.2.1)]
  · rw [if_neg h2]
    by_cases h5 : l.ph = 4
    · rw [if_pos h5]
      by_cases h3 : 0 ≤ l.sg ∧ l.sg ≤ 2
      · rw [if_pos h3]
        by_cases h4 : 0 ≤ l.sk ∧ l.sk ≤ 2
        · rw [if_pos h4]; simp [h5, h3, h4]
        · rw [if_neg h4, decide_eq_false (fun z => h4 z.2.2.1)]
      · rw [if_neg h3, decide_eq_false (fun z => h3 z.2.1)]
    · rw [if_neg h5, decide_eq_false (fun z => z.1.elim h2 h5)]
theorem ratioV_spec (ratio : Int) : spec_l05Ratio.f ratio = some (ratioV ratio) := by unfold spec_l05Ratio.f ratioV; rw [in_is, Option.bind_some]
theorem ratioV_impl (ratio : Int) : impl_isRatio.f ratio = some (ratioV ratio) := by unfold impl_isRatio.f ratioV; rw [within_i, Option.bind_some]
theorem valid_link (g : Nat) (l : Lnk) (w : World) (hl : w.heap[g]? = some (boxL l)) :
    Calls Try.prog 27 #[.pointer (some ⟨g, 0, none⟩)] w fun e w' => e = .returned (.bool (linkV l)) ∧ Below w.heap.size w w' := by
  refine (spec_l05Link.calls g l.ph l.sg l.sk l.wd (linkV l) l.ph l.sg l.sk l.wd (bare w) w ⟨hl, Nat.zero_le _⟩ (bare_below w) (linkV_spec l)).mono ?_
  rintro e w' ⟨he, hI, hB, hK⟩
  exact ⟨he, quiet_of_keep hl hI.1 hB hK⟩
theorem valid_ratio (ratio : Int) (w : World) : Calls Try.prog 28 #[.int .i64 ratio] w fun e w' => e = .returned (.bool (ratioV ratio)) ∧ Below w.heap.size w w' := by
  refine (spec_l05Ratio.calls ratio _ w (ratioV_spec ratio)).mono ?_
  rintro e w' ⟨he, hD⟩
  obtain ⟨m, rfl⟩ := hD
  exact ⟨he, pw_below_drewN (Below.refl _ _) m⟩
theorem valid_ratio' (ratio : Int) (w : World) : Calls Try.prog 31 #[.int .i64 ratio] w fun e w' => e = .returned (.bool (ratioV ratio)) ∧ Below w.heap.size w w' := by
  refine (impl_isRatio.calls ratio _ w (ratioV_impl ratio)).mono ?_
  rintro e w' ⟨he, hD⟩
  obtain ⟨m, rfl⟩ := hD
  exact ⟨he, pw_below_drewN (Below.refl _ _) m⟩
end Go.Proofs.Ytgmnbpdfdagniaa.A
