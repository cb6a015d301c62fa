/- Lists of texts: what is marked in them is held. No conditions. -/
import Derived.Test.YtjpjlobpglmoiaaDoorA21
import Derived.Test.YtjpjlobpglmoiaaDoorA22
import Derived.Test.YtjpjlobpglmoiaaDoorA39
import Derived.Test.YtjpjlobpglmoiaaDoorStrList
namespace Go.Proofs.YtjpjlobpglmoiaaDoor.Pure
set_option linter.unusedVariables false
set_option linter.unusedSimpArgs false
open Go.RowKit Go.Proofs.YtjpjlobpglmoiaaDoor.A Go.Proofs.YtjpjlobpglmoiaaDoorW.PrintWords Go.Proofs.YtjpjlobpglmoiaaDoorW.PrintLast Go.Proofs.YtjpjlobpglmoiaaDoorW.PrintMore
theorem nums_size (l : List Int) : (strOfNums l).size = l.length := by
  simp [strOfNums, ByteArray.size]
theorem ev_mt0 (n : Nat) : ∀ (x : ByteArray), n + x.size ≤ 3000000 → ∃ r, Ev (fun k => laws_markText.l0 k (n : Int) x) r := by
  induction n using Nat.strongRecOn with
  | _ n ih =>
    intro x hx
    by_cases c : n = 0
    · subst c
      refine ⟨_, Ev.step (f := fun _ => some ((⟨#[109]⟩ : ByteArray) ++ x)) (fun k => ?_) (Ev.now _)⟩
      simp only [laws_markText.l0]
      rw [if_neg (by omega), if_pos (by omega)]
    · obtain ⟨y, hy⟩ : ∃ y, strOfNums [(wrap64 (48 + (Int.tmod (n : Int) 10))) % 256] = y := ⟨_, rfl⟩
      have hs : y.size = 1 := by rw [← hy, nums_size]; rfl
      obtain ⟨r, hr⟩ := ih (n / 10) (by omega) (y ++ x) (by rw [ByteArray.size_append, hs]; omega)
      refine ⟨r, Ev.step (f := fun k => laws_markText.l0 k ((n / 10 : Nat) : Int) (y ++ x)) (fun k => ?_) hr⟩
      simp only [laws_markText.l0]
      rw [if_pos (by omega), Option.bind_some, hy, if_pos (by omega), show Int.tdiv (n : Int) 10 = ((n / 10 : Nat) : Int) by rw [Int.tdiv_eq_ediv_of_nonneg (by omega)]; rfl, w64' (by omega) (by omega)]
theorem ev_mt : ∃ mt : Int → ByteArray, ∀ m, 1 ≤ m → m ≤ 2000000 → Ev (fun k => laws_markText.f k m) (mt m) := by
  have h : ∀ m : Int, ∃ t : ByteArray, 1 ≤ m → m ≤ 2000000 → Ev (fun k => laws_markText.f k m) t := by
    intro m
    by_cases c : 1 ≤ m ∧ m ≤ 2000000
    · obtain ⟨n, rfl⟩ : ∃ n : Nat, m = n := ⟨m.toNat, by omega⟩
      obtain ⟨r, hr⟩ := ev_mt0 n ⟨#[]⟩ (by show n + 0 ≤ 3000000; omega)
      refine ⟨r, fun _ _ => ?_⟩
      unfold laws_markText.f
      simp only [if_neg (show ¬ (n : Int) ≤ 0 by omega)]
      exact hr
    · exact ⟨⟨#[]⟩, fun h1 h2 => absurd ⟨h1, h2⟩ c⟩
  exact ⟨fun m => (h m).choose, fun m => (h m).choose_spec⟩
/-- What markStringS writes. -/
def smarked (mt : Int → ByteArray) : Int → List ByteArray → List ByteArray
  | _, [] => []
  | m, _ :: l => mt m :: smarked mt (m + 1) l
theorem smarked_length (mt : Int → ByteArray) : ∀ (l : List ByteArray) (m : Int), (smarked mt m l).length = l.length
  | [], _ => rfl
  | _ :: l, m => by simp [smarked, smarked_length mt l]
theorem ev_mark (mt : Int → ByteArray) (hmt : ∀ m, 1 ≤ m → m ≤ 2000000 → Ev (fun k => laws_markText.f k m) (mt m)) : ∀ (l p : List ByteArray) (m i : Int), i = p.length → (p ++ l).length ≤ 1048576 → 1 ≤ m → m + l.length ≤ 2000000 →
    Ev (fun k => laws_markStringS.l0 k (p ++ l) m i) (m + l.length, p ++ smarked mt m l)
  | [], p, m, i, hi, hl, _, _ => by
    refine Ev.step (f := fun _ => some (m, p ++ [])) (fun k => ?_) ?_
    · simp only [laws_markStringS.l0]; rw [if_neg (by simp [hi])]
    · have : (m + (([] : List ByteArray).length : Int), p ++ smarked mt m []) = (m, p ++ []) := by simp [smarked]
      rw [this]; exact Ev.now _
  | x :: l, p, m, i, hi, hl, h0, h2 => by
    simp only [List.length_append, List.length_cons] at hl h2
    have ih := ev_mark mt hmt l (p ++ [mt m]) (m + 1) (i + 1) (by simp [hi]) (by simp; omega) (by omega) (by omega)
    refine Ev.step (f := fun k => (laws_markText.f k m).bind fun t => laws_markStringS.l0 k (p ++ t :: l) (m + 1) (i + 1)) (fun k => ?_) (Ev.bind (hmt m h0 (by omega)) ?_)
    · simp only [laws_markStringS.l0]
      rw [if_pos (by simp [hi]; omega)]
      congr 1
      funext t
      rw [if_pos (by omega), w64' (by omega) (by omega), w64' (by omega) (by omega)]
      subst hi
      simp
    · simp only [List.append_assoc, List.singleton_append] at ih
      have e : (m + ((x :: l).length : Int), p ++ smarked mt m (x :: l)) = (m + 1 + (l.length : Int), p ++ mt m :: smarked mt (m + 1) l) := by
        simp only [smarked, List.length_cons, Prod.mk.injEq, and_true]; omega
      rw [e]; exact ih
theorem ev_held (mt : Int → ByteArray) (hmt : ∀ m, 1 ≤ m → m ≤ 2000000 → Ev (fun k => laws_markText.f k m) (mt m)) : ∀ (l p : List ByteArray) (m i : Int), i = p.length → (p ++ l).length ≤ 1048576 → 1 ≤ m → m + l.length ≤ 2000000 →
    Ev (fun k => laws_heldStringS.l0 k (p ++ smarked mt m l) m i) (m + l.length)
  | [], p, m, i, hi, hl, _, _ => by
    refine Ev.step (f := fun _ => some m) (fun k => ?_) ?_
    · simp only [laws_heldStringS.l0]; rw [if_neg (by simp [hi, smarked])]
    · have : (m + (([] : List ByteArray).length : Int)) = m := by simp
      rw [this]; exact Ev.now _
  | x :: l, p, m, i, hi, hl, h0, h2 => by
    simp only [List.length_append, List.length_cons] at hl h2
    have ih := ev_held mt hmt l (p ++ [mt m]) (m + 1) (i + 1) (by simp [hi]) (by simp; omega) (by omega) (by omega)
    have e : smarked mt m (x :: l) = mt m :: smarked mt (m + 1) l := rfl
    rw [e]
    refine Ev.step (f := fun k => (laws_markText.f k m).bind fun t => if (mt m).toList = t.toList then laws_heldStringS.l0 k (p ++ mt m :: smarked mt (m + 1) l) (m + 1) (i + 1) else some (-1)) (fun k => ?_) (Ev.bind (hmt m h0 (by omega)) ?_)
    · simp only [laws_heldStringS.l0]
      rw [if_pos (by simp [hi, smarked_length]; omega), if_pos (by omega), rds p _ _ i hi, w64' (x := m + 1) (by omega) (by omega), w64' (x := i + 1) (by omega) (by omega)]
    · simp only [if_true]
      simp only [List.append_assoc, List.singleton_append] at ih
      have e : m + ((x :: l).length : Int) = m + 1 + (l.length : Int) := by simp only [List.length_cons]; omega
      rw [e]; exact ih
end Go.Proofs.YtjpjlobpglmoiaaDoor.Pure
