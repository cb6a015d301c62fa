/- What the functions over two fractions share. Conditions: valid fractions. -/
import Derived.Test.YtmadpelampanfaaRats7
import Derived.Test.YtmadpelampanfaaA7
namespace Go.Proofs.Ytmadpelampanfaa.A
set_option linter.unusedVariables false
set_option linter.unusedSimpArgs false
open Go.RowKit Go.Proofs.YtmadpelampanfaaW.PrintWords Go.Proofs.YtmadpelampanfaaW.PrintLast Go.Proofs.YtmadpelampanfaaW.PrintMore
abbrev boxF (n d : Int) : Obj := .cells #[.int .i64 n, .int .i64 d] 26 (0, 0)
theorem size_alloc' (W : World) (o : Obj) : (W.alloc o).heap.size = W.heap.size + 1 := by simp
theorem below_box (W : World) (n d n' d' : Int) : Below W.heap.size W (((W.alloc (boxF n d)).alloc (boxF n' d')).alloc zeroF) := below_alloc (below_alloc (below_alloc (Below.refl _ _) _) _) _
theorem box0 (W : World) (n d n' d' : Int) : (((W.alloc (boxF n d)).alloc (boxF n' d')).alloc zeroF).heap[W.heap.size]? = some (boxF n d) := blk_alloc (blk_alloc (blk_new W _) _) _
theorem box1 (W : World) (n d n' d' : Int) : (((W.alloc (boxF n d)).alloc (boxF n' d')).alloc zeroF).heap[W.heap.size + 1]? = some (boxF n' d') := by
  have h := blk_new (W.alloc (boxF n d)) (boxF n' d')
  rw [size_alloc'] at h
  exact blk_alloc h _
theorem box2 (W : World) (n d n' d' : Int) : (((W.alloc (boxF n d)).alloc (boxF n' d')).alloc zeroF).heap[W.heap.size + 2]? = some zeroF := by
  have h := blk_new ((W.alloc (boxF n d)).alloc (boxF n' d')) zeroF
  rw [size_alloc', size_alloc'] at h
  exact h
theorem four_cells {w : World} {a b : Nat} {n d n' d' : Int} (h : w.heap[a]? = some (boxF n d)) (h' : w.heap[b]? = some (boxF n' d')) : w.cell? ⟨a, 0, none⟩ = some (.int .i64 n) ∧ w.cell? ⟨a, 1, none⟩ = some (.int .i64 d) ∧ w.cell? ⟨b, 0, none⟩ = some (.int .i64 n') ∧ w.cell? ⟨b, 1, none⟩ = some (.int .i64 d') := ⟨(blk_cell h 0).trans rfl, (blk_cell h 1).trans rfl, (blk_cell h' 0).trans rfl, (blk_cell h' 1).trans rfl⟩
theorem blk_put_ne {w : World} {g b i : Nat} {o : Obj} {v : Value} (h : w.heap[g]? = some o) (hne : g ≠ b) : (w.setCell ⟨b, i, none⟩ v).heap[g]? = some o := blk_grown h (grown_set (World.grownBy.refl w (some b)) i v) (by simpa using hne)
def Part (x : Int) : Prop := -1000000000000000000 ≤ x ∧ x ≤ 1000000000000000000
theorem lo_part {X : Int} (h : Part X) : Lo X := Lo.of (by unfold Part at h; omega)
theorem part_mul {x y : Int} (hx : Part x) (hy : Part y) : -1000000000000000000000000000000000000 ≤ x * y ∧ x * y ≤ 1000000000000000000000000000000000000 := by
  unfold Part at *
  have h : (x * y).natAbs ≤ 1000000000000000000 * 1000000000000000000 := by
    rw [Int.natAbs_mul]
    exact Nat.mul_le_mul (by omega) (by omega)
  omega
theorem fits2_mul {x y : Int} (hx : Part x) (hy : Part y) : Fits2 (x * y) := by
  have := part_mul hx hy
  generalize x * y = p at *
  exact Fits2.of (by omega)
theorem fits2_add {x y z v : Int} (hx : Part x) (hy : Part y) (hz : Part z) (hv : Part v) : Fits2 (x * y + z * v) := by
  have h1 := part_mul hx hy
  have h2 := part_mul hz hv
  generalize x * y = p at *
  generalize z * v = q at *
  exact Fits2.of (by omega)
theorem fits2_sub {x y z v : Int} (hx : Part x) (hy : Part y) (hz : Part z) (hv : Part v) : Fits2 (x * y - z * v) := by
  have h1 := part_mul hx hy
  have h2 := part_mul hz hv
  generalize x * y = p at *
  generalize z * v = q at *
  exact Fits2.of (by omega)
theorem okF_parts {n d : Int} (h : okF n d = true) : Part n ∧ Part d ∧ 1 ≤ d := by
  obtain ⟨⟨a0, a1⟩, ⟨a2, a3⟩, a4⟩ := okF_iff.1 h
  exact ⟨⟨a2, a3⟩, ⟨by omega, a1⟩, a0⟩
theorem low_num {n d : Int} (h : okF n d = true) : numI n d = n ∧ denI n d = d := by
  obtain ⟨⟨a0, a1⟩, ⟨a2, a3⟩, a4⟩ := okF_iff.1 h
  have hd : decide (d < 0) = false := decide_eq_false (by omega)
  unfold numI denI gcdI sgn
  rw [a4, hd]
  by_cases c : n < 0
  · simp [c]; omega
  · simp [c]; omega
end Go.Proofs.Ytmadpelampanfaa.A
