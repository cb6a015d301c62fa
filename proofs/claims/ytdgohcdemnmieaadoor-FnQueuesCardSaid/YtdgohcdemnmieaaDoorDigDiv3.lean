import Derived.Test.YtdgohcdemnmieaaDoorZ22
import Derived.Laws.Bits64b
import Derived.Test.YtdgohcdemnmieaaDoorA53
/- Plain facts about digits of 32 bits, the least ones first. No conditions. -/
namespace Go.Proofs.YtdgohcdemnmieaaDoor.A
set_option linter.unusedVariables false
set_option linter.unusedSimpArgs false
open Go.RowKit Go.Proofs.YtdgohcdemnmieaaDoorW.PrintWords Go.Proofs.YtdgohcdemnmieaaDoorW.PrintLast Go.Proofs.YtdgohcdemnmieaaDoorW.PrintMore
theorem w64 {x : Int} (h1 : -9223372036854775808 ≤ x) (h2 : x ≤ 9223372036854775807) : wrap64 x = x := by unfold wrap64; omega
theorem wu64 (n : Int) : IntKind.u64.wrap n = n % 18446744073709551616 := by simp [IntKind.wrap, IntKind.bits, IntKind.signed]
theorem u64_small {x : Int} (h0 : 0 ≤ x) (h1 : x < 18446744073709551616) : IntKind.u64.wrap x = x := by rw [wu64]; omega
theorem rd_nat (l : List Int) (i : Nat) : rd l (i : Int) = l.getD i 0 := by unfold rd; rw [Int.toNat_natCast]
theorem rd_mem {l : List Int} {i : Nat} (h : i < l.length) : rd l (i : Int) = l[i] := by rw [rd_nat]; simp [h]
theorem rd_out {l : List Int} {i : Nat} (h : l.length ≤ i) : rd l (i : Int) = 0 := by rw [rd_nat, List.getD_eq_getElem?_getD, List.getElem?_eq_none h]; rfl
theorem rd_digs {l : List Int} (h : Digs l) (i : Int) : 0 ≤ rd l i ∧ rd l i < 4294967296 := by
  unfold rd
  rw [List.getD_eq_getElem?_getD]
  rcases hq : l[i.toNat]? with _ | x
  · simp
  · exact h x (List.mem_of_getElem? hq)
theorem rd_set (l : List Int) (i j : Nat) (x : Int) : rd (l.set i x) (j : Int) = if i = j ∧ i < l.length then x else rd l (j : Int) := by
  rw [rd_nat, rd_nat, List.getD_eq_getElem?_getD, List.getD_eq_getElem?_getD, List.getElem?_set]
  by_cases h : i = j
  · subst h
    by_cases hl : i < l.length
    · simp [hl]
    · simp [hl]
  · simp [h]
theorem digs_set {l : List Int} (h : Digs l) (i : Nat) {x : Int} (h0 : 0 ≤ x) (h1 : x < 4294967296) : Digs (l.set i x) := by
  intro y hy
  rcases List.mem_or_eq_of_mem_set hy with h2 | h2
  · exact h y h2
  · subst h2; exact ⟨h0, h1⟩
theorem digs_replicate (n : Nat) : Digs (List.replicate n 0) := by
  intro x hx
  rw [List.mem_replicate] at hx
  omega
theorem digs_take {l : List Int} (h : Digs l) (n : Nat) : Digs (l.take n) := fun x hx => h x (List.mem_of_mem_take hx)
theorem digs_append {l m : List Int} (h : Digs l) (h' : Digs m) : Digs (l ++ m) := fun x hx => (List.mem_append.1 hx).elim (h x) (h' x)
theorem val_replicate (n : Nat) : val (List.replicate n 0) = 0 := val_zero_drop _ (fun x hx => (List.mem_replicate.1 hx).2)
theorem val_set : ∀ (l : List Int) (i : Nat) (x : Int), i < l.length → val (l.set i x) = val l + 4294967296 ^ i * (x - rd l (i : Int))
  | [], _, _, h => by simp at h
  | a :: l, 0, x, _ => by simp [val, rd]; omega
  | a :: l, i + 1, x, h => by
    have h' : i < l.length := by simpa using h
    have e : rd (a :: l) ((i + 1 : Nat) : Int) = rd l (i : Int) := by rw [rd_nat, rd_nat]; simp
    simp only [List.set_cons_succ, val, val_set l i x h', e, Int.pow_succ]
    rw [Int.mul_add, ← Int.mul_assoc, Int.mul_comm 4294967296 (4294967296 ^ i)]; omega
theorem val_take_succ (l : List Int) (i : Nat) (h : i < l.length) : val (l.take (i + 1)) = val (l.take i) + 4294967296 ^ i * rd l (i : Int) := by
  rw [List.take_succ_eq_append_getElem h, val_append, rd_mem h, List.length_take, Nat.min_eq_left (by omega)]
  simp [val]
theorem pw_pos (n : Nat) : (0 : Int) < 4294967296 ^ n := Int.pow_pos (by omega)
theorem pw_succ (n : Nat) : (4294967296 : Int) ^ (n + 1) = 4294967296 * 4294967296 ^ n := by rw [Int.pow_succ, Int.mul_comm]
theorem val_lt : ∀ (l : List Int), Digs l → val l < 4294967296 ^ l.length
  | [], _ => by simp [val]
  | x :: l, h => by
    have h1 := val_lt l (fun y hy => h y (by simp [hy]))
    have h2 := h x (by simp)
    simp only [val, List.length_cons, pw_succ]
    omega
theorem pw_mono {m n : Nat} (h : m ≤ n) : (4294967296 : Int) ^ m ≤ 4294967296 ^ n := by
  obtain ⟨d, rfl⟩ := Nat.exists_eq_add_of_le h
  rw [Int.pow_add]
  have h1 := pw_pos m
  have h2 := pw_pos d
  have := Int.mul_le_mul_of_nonneg_left (show (1 : Int) ≤ 4294967296 ^ d by omega) (Int.le_of_lt h1)
  omega
theorem can_ge {l : List Int} (h : Can l) (hne : l ≠ []) : 4294967296 ^ (l.length - 1) ≤ val l := by
  have hl := h.2 hne
  have e := List.dropLast_concat_getLast hne
  have hx := h.1 _ (List.getLast_mem hne)
  have h0 : val l = val l.dropLast + 4294967296 ^ l.dropLast.length * l.getLast hne := by
    have h9 : val (l.dropLast ++ [l.getLast hne]) = val l.dropLast + 4294967296 ^ l.dropLast.length * l.getLast hne := by rw [val_append]; simp [val]
    rw [e] at h9; exact h9
  have h1 := val_nonneg l.dropLast (fun y hy => h.1 y ((List.dropLast_sublist l).subset hy))
  have h2 := pw_pos l.dropLast.length
  have h3 := Int.mul_le_mul_of_nonneg_left (show (1 : Int) ≤ l.getLast hne by omega) (Int.le_of_lt h2)
  have h4 : l.dropLast.length = l.length - 1 := by simp
  rw [h4] at h0 h2 h3
  omega
theorem can_len {l : List Int} (h : Can l) {n : Nat} (hv : val l < 4294967296 ^ n) : l.length ≤ n := by
  rcases Nat.lt_or_ge n l.length with h1 | h1
  · have hne : l ≠ [] := by intro h2; rw [h2] at h1; simp at h1
    have h2 := can_ge h hne
    have h3 := pw_mono (show n ≤ l.length - 1 by omega)
    omega
  · exact h1
theorem or_u64 (a b i : Nat) (h : a < 2 ^ i) (hb : b * 2 ^ i < 18446744073709551616) (ha : a < 18446744073709551616) : bits .or .u64 ((b : Int) * (2 : Int) ^ i) (a : Int) = (b : Int) * (2 : Int) ^ i + a := by
  have e : ((b : Int) * (2 : Int) ^ i) = ((b * 2 ^ i : Nat) : Int) := by push_cast; rfl
  rw [e, bits_or_u64_nat _ _ hb ha, ← Nat.shiftLeft_eq, ← Nat.shiftLeft_add_eq_or_of_lt h]
  omega
theorem or_u64' (a b i : Nat) (h : a < 2 ^ i) (hb : b * 2 ^ i < 18446744073709551616) (ha : a < 18446744073709551616) : bits .or .u64 (a : Int) ((b : Int) * (2 : Int) ^ i) = (b : Int) * (2 : Int) ^ i + a := by
  have e : ((b : Int) * (2 : Int) ^ i) = ((b * 2 ^ i : Nat) : Int) := by push_cast; rfl
  rw [e, bits_or_u64_nat _ _ ha hb, Nat.or_comm, ← Nat.shiftLeft_eq, ← Nat.shiftLeft_add_eq_or_of_lt h]
  omega
theorem and_low (x : Int) (h0 : 0 ≤ x) (h1 : x < 18446744073709551616) : bits .and .u64 x 4294967295 = x % 4294967296 := by
  obtain ⟨n, rfl⟩ := Int.eq_ofNat_of_zero_le h0
  have := bits_and_u64_nat n 4294967295 (by omega) (by decide)
  rw [show ((4294967295 : Nat) : Int) = 4294967295 from rfl] at this
  rw [this, show (4294967295 : Nat) = 2 ^ 32 - 1 from rfl, Nat.and_two_pow_sub_one_eq_mod]
  omega
theorem wr_add {i j : Nat} (h : i + j ≤ 4000000000) : wrap64 ((i : Int) + (j : Int)) = ((i + j : Nat) : Int) := by rw [w64 (by omega) (by omega)]; omega
theorem wr_succ {j : Nat} (h : j ≤ 4000000000) : wrap64 ((j : Int) + 1) = ((j + 1 : Nat) : Int) := by rw [w64 (by omega) (by omega)]; omega
theorem wr_sub {i j : Nat} (h : j ≤ i) (h1 : i ≤ 4000000000) : wrap64 ((i : Int) - (j : Int)) = ((i - j : Nat) : Int) := by rw [w64 (by omega) (by omega)]; omega
end Go.Proofs.YtdgohcdemnmieaaDoor.A

/- What mulDigits computes: the product. Conditions: at most 1000 digits each. -/
namespace Go.Proofs.YtdgohcdemnmieaaDoor.A
set_option linter.unusedVariables false
set_option linter.unusedSimpArgs false
open Go.RowKit Go.Proofs.YtdgohcdemnmieaaDoorW.PrintWords Go.Proofs.YtdgohcdemnmieaaDoorW.PrintLast Go.Proofs.YtdgohcdemnmieaaDoorW.PrintMore
theorem mul_step (ys xs out : List Int) (x c y o p L : Int) (i j : Nat) (hi : i ≤ 1000) (hn : ys.length ≤ 1000) (hj : j < ys.length) (hl : i + j < out.length) (hyy : rd ys (j : Int) = y) (hoo : rd out ((i + j : Nat) : Int) = o) (hp : x * y = p) (x0 : 0 ≤ x) (x1 : x < 4294967296) (y0 : 0 ≤ y) (y1 : y < 4294967296) (o0 : 0 ≤ o) (o1 : o < 4294967296) (c0 : 0 ≤ c) (c1 : c < 4294967296) (p0 : 0 ≤ p) (p1 : p ≤ 4294967295 * 4294967295) (K : Nat) :
    impl_mulDigits.l1 (K + 1) ys out i x c xs L i ys (ys.length : Int) j = impl_mulDigits.l1 K ys (out.set (i + j) ((c + (p + o)) % 4294967296)) i x ((c + (p + o)) / 4294967296) xs L i ys (ys.length : Int) ((j + 1 : Nat) : Int) := by
  have c1' : (j : Int) < (ys.length : Int) := by omega
  have c2' : (0 : Int) ≤ (j : Int) := by omega
  have c3' : (0 : Int) ≤ ((i + j : Nat) : Int) := by omega
  have c4' : ((i + j : Nat) : Int) < (out.length : Int) := by omega
  have ew := wr_add (i := i) (j := j) (by omega)
  have ew2 := wr_succ (j := j) (by omega)
  have e1 : IntKind.u64.wrap (c + (IntKind.u64.wrap ((IntKind.u64.wrap ((IntKind.u64.wrap x) * (IntKind.u64.wrap y))) + (IntKind.u64.wrap o)))) = c + (p + o) := by
    rw [u64_small x0 (by omega), u64_small y0 (by omega), hp, u64_small o0 (by omega), u64_small p0 (by omega), u64_small (x := p + o) (by omega) (by omega), u64_small (x := c + (p + o)) (by omega) (by omega)]
  conv => lhs; unfold impl_mulDigits.l1
  rw [if_pos c1', if_pos c2', if_pos c1', ew, ew2, if_pos c3', if_pos c4', hyy, hoo, e1, Int.toNat_natCast]
theorem mul_inner (ys xs : List Int) (hy : Digs ys) (x : Int) (x0 : 0 ≤ x) (x1 : x < 4294967296) (i : Nat) (hi : i ≤ 1000) (hn : ys.length ≤ 1000) (L : Int) : ∀ (d j : Nat) (out : List Int) (c : Int), j + d = ys.length → Digs out → i + ys.length < out.length → 0 ≤ c → c < 4294967296 →
    ∃ out' c', Digs out' ∧ out'.length = out.length ∧ 0 ≤ c' ∧ c' < 4294967296 ∧ val out' + 4294967296 ^ (i + ys.length) * c' + 4294967296 ^ i * (x * val (ys.take j)) = val out + 4294967296 ^ (i + j) * c + 4294967296 ^ i * (x * val ys) ∧ (∀ q : Nat, i + ys.length ≤ q → rd out' (q : Int) = rd out (q : Int)) ∧
      ∀ K, impl_mulDigits.l1 (K + d) ys out i x c xs L i ys (ys.length : Int) j = impl_mulDigits.l1 K ys out' i x c' xs L i ys (ys.length : Int) (ys.length : Int)
  | 0, j, out, c, hj, ho, hl, c0, c1 => by
    have e : j = ys.length := by omega
    subst e
    refine ⟨out, c, ho, rfl, c0, c1, by rw [List.take_length], fun q _ => rfl, fun K => by rw [Nat.add_zero]⟩
  | d + 1, j, out, c, hj, ho, hl, c0, c1 => by
    have hy' := rd_digs hy (j : Int)
    have ho' := rd_digs ho ((i + j : Nat) : Int)
    obtain ⟨y, hyy⟩ : ∃ y, rd ys (j : Int) = y := ⟨_, rfl⟩
    obtain ⟨o, hoo⟩ : ∃ o, rd out ((i + j : Nat) : Int) = o := ⟨_, rfl⟩
    rw [hyy] at hy'; rw [hoo] at ho'
    have hp0 : 0 ≤ x * y := Int.mul_nonneg x0 hy'.1
    have hp1 : x * y ≤ 4294967295 * 4294967295 := Int.mul_le_mul (by omega) (by omega) hy'.1 (by omega)
    obtain ⟨p, hp⟩ : ∃ p, x * y = p := ⟨_, rfl⟩
    rw [hp] at hp0 hp1
    obtain ⟨out', c', h1, h2, h3, h4, h5, h6, h7⟩ := mul_inner ys xs hy x x0 x1 i hi hn L d (j + 1) (out.set (i + j) ((c + (p + o)) % 4294967296)) ((c + (p + o)) / 4294967296) (by omega) (digs_set ho _ (by omega) (by omega)) (by simpa using hl) (by omega) (by omega)
    refine ⟨out', c', h1, by simpa using h2, h3, h4, ?_, fun q hq => ?_, fun K => ?_⟩
    · rw [val_take_succ ys j (by omega), hyy, val_set out (i + j) _ (by omega), hoo] at h5
      have e1 : x * (val (ys.take j) + 4294967296 ^ j * y) = x * val (ys.take j) + 4294967296 ^ j * p := by
        rw [Int.mul_add, Int.mul_left_comm, hp]
      rw [e1, Int.mul_add, ← Int.mul_assoc (4294967296 ^ i) (4294967296 ^ j) p, ← Int.pow_add] at h5
      have e3 : ∀ q : Int, (4294967296 : Int) ^ (i + (j + 1)) * q = 4294967296 ^ (i + j) * (q * 4294967296) := fun q => by rw [← Nat.add_assoc, Int.pow_succ, Int.mul_assoc, Int.mul_comm 4294967296 q]
      rw [e3] at h5
      have e2 : (4294967296 : Int) ^ (i + j) * ((c + (p + o)) % 4294967296 - o) + 4294967296 ^ (i + j) * ((c + (p + o)) / 4294967296 * 4294967296) = 4294967296 ^ (i + j) * c + 4294967296 ^ (i + j) * p := by
        rw [← Int.mul_add, ← Int.mul_add]; congr 1; omega
      omega
    · rw [h6 q hq, rd_set, if_neg (by omega)]
    · rw [show K + (d + 1) = (K + d) + 1 by omega]
      rw [mul_step ys xs out x c y o p L i j hi hn (by omega) (by omega) hyy hoo hp x0 x1 hy'.1 hy'.2 ho'.1 ho'.2 c0 c1 hp0 hp1]
      exact h7 K
theorem mul_head (ys xs out : List Int) (i K : Nat) (x : Int) (hi : i < xs.length) (hxx : rd xs (i : Int) = x) : impl_mulDigits.l0 (K + 1) ys out xs (xs.length : Int) i = impl_mulDigits.l1 K ys out i x 0 xs (xs.length : Int) i ys (ys.length : Int) ((0 : Nat) : Int) := by
  have c1' : (i : Int) < (xs.length : Int) := by omega
  have c2' : (0 : Int) ≤ (i : Int) := by omega
  conv => lhs; unfold impl_mulDigits.l0
  rw [if_pos c1', if_pos c2', if_pos c1', hxx]
  rfl
theorem mul_tail (ys xs out : List Int) (x c L : Int) (i : Nat) (hi : i ≤ 1000) (hn : ys.length ≤ 1000) (hl : i + ys.length < out.length) (c0 : 0 ≤ c) (c1 : c < 4294967296) (K : Nat) : impl_mulDigits.l1 (K + 1) ys out i x c xs L i ys (ys.length : Int) (ys.length : Int) = impl_mulDigits.l0 K ys (out.set (i + ys.length) c) xs L ((i + 1 : Nat) : Int) := by
  have c1' : ¬ (ys.length : Int) < (ys.length : Int) := by omega
  have c2' : (0 : Int) ≤ ((i + ys.length : Nat) : Int) := by omega
  have c3' : ((i + ys.length : Nat) : Int) < (out.length : Int) := by omega
  have c4' : c % 4294967296 = c := by omega
  have ew := wr_add (i := i) (j := ys.length) (by omega)
  have ew2 := wr_succ (j := i) (by omega)
  conv => lhs; unfold impl_mulDigits.l1
  rw [if_neg c1', ew, ew2, if_pos c2', if_pos c3', Int.toNat_natCast, c4']
theorem mul_outer (ys xs : List Int) (hx : Digs xs) (hy : Digs ys) (hm : xs.length ≤ 1000) (hn : ys.length ≤ 1000) : ∀ (d i : Nat) (out : List Int), i + d = xs.length → Digs out → out.length = xs.length + ys.length → val out = val (xs.take i) * val ys → (∀ q : Nat, i + ys.length ≤ q → rd out (q : Int) = 0) →
    ∃ K r, impl_mulDigits.l0 K ys out xs (xs.length : Int) i = some r ∧ Digs r ∧ val r = val xs * val ys
  | 0, i, out, hi, ho, hl, hv, hz => by
    have e : i = xs.length := by omega
    subst e
    refine ⟨1, out, ?_, ho, by rw [hv, List.take_length]⟩
    unfold impl_mulDigits.l0
    rw [if_neg (by omega)]
  | d + 1, i, out, hi, ho, hl, hv, hz => by
    have hx' := rd_digs hx (i : Int)
    obtain ⟨x, hxx⟩ : ∃ x, rd xs (i : Int) = x := ⟨_, rfl⟩
    rw [hxx] at hx'
    obtain ⟨out', c', h1, h2, h3, h4, h5, h6, h7⟩ := mul_inner ys xs hy x hx'.1 hx'.2 i (by omega) hn xs.length ys.length 0 out 0 (by omega) ho (by omega) (by omega) (by omega)
    simp only [List.take_zero, val, Int.mul_zero, Int.add_zero] at h5
    obtain ⟨K, r, g1, g2, g3⟩ := mul_outer ys xs hx hy hm hn d (i + 1) (out'.set (i + ys.length) c') (by omega) (digs_set h1 _ h3 h4) (by simp; omega) (by
      rw [val_set out' _ _ (by omega), h6 _ (Nat.le_refl _), hz _ (Nat.le_refl _), val_take_succ xs i (by omega), hxx, Int.add_mul, ← hv, Int.mul_assoc, Int.sub_zero]
      omega) (fun q hq => by rw [rd_set, if_neg (by omega), h6 q (by omega), hz q (by omega)])
    refine ⟨K + 1 + ys.length + 1, r, ?_, g2, g3⟩
    rw [mul_head ys xs out i (K + 1 + ys.length) x (by omega) hxx, h7 (K + 1), mul_tail ys xs out' x c' (xs.length : Int) i (by omega) hn (by omega) h3 h4 K]
    exact g1
theorem mulDigits_eq (xs ys : List Int) (hx : Digs xs) (hy : Digs ys) (hm : xs.length ≤ 1000) (hn : ys.length ≤ 1000) : ∃ k r, impl_mulDigits.f k xs ys = some r ∧ Digs r ∧ val r = val xs * val ys := by
  have ew := wr_add (i := xs.length) (j := ys.length) (by omega)
  obtain ⟨K, r, h1, h2, h3⟩ := mul_outer ys xs hx hy hm hn xs.length 0 (List.replicate (xs.length + ys.length) 0) (by omega) (digs_replicate _) (by simp) (by rw [val_replicate]; simp [val]) (fun q _ => by rw [rd_nat, List.getD_eq_getElem?_getD, List.getElem?_replicate]; split <;> rfl)
  refine ⟨K, r, ?_, h2, h3⟩
  unfold impl_mulDigits.f
  rw [ew, if_pos (by omega), if_pos (by omega), Int.toNat_natCast]
  exact h1
end Go.Proofs.YtdgohcdemnmieaaDoor.A

/- What addDigits, subDigits and compareDigits compute: the sum, the difference, the order. Conditions: at most 1000 digits each. -/
namespace Go.Proofs.YtdgohcdemnmieaaDoor.A
set_option linter.unusedVariables false
set_option linter.unusedSimpArgs false
open Go.RowKit Go.Proofs.YtdgohcdemnmieaaDoorW.PrintWords Go.Proofs.YtdgohcdemnmieaaDoorW.PrintLast Go.Proofs.YtdgohcdemnmieaaDoorW.PrintMore
theorem val_take_next (l : List Int) (i : Nat) : val (l.take (i + 1)) = val (l.take i) + 4294967296 ^ i * rd l (i : Int) := by
  by_cases h : i < l.length
  · exact val_take_succ l i h
  · rw [rd_out (by omega), List.take_of_length_le (by omega), List.take_of_length_le (by omega)]; omega
theorem val_snoc (l : List Int) (x : Int) : val (l ++ [x]) = val l + 4294967296 ^ l.length * x := by rw [val_append]; simp [val]
theorem add_step (xs ys out : List Int) (c x y : Int) (i K : Nat) (hi : i ≤ 2000) (ho : out.length = i) (hx : rd xs (i : Int) = x) (hy : rd ys (i : Int) = y) (c0 : 0 ≤ c) (c1 : c ≤ 1) (x0 : 0 ≤ x) (x1 : x < 4294967296) (y0 : 0 ≤ y) (y1 : y < 4294967296) (hgo : i < xs.length ∨ i < ys.length ∨ 0 < c) :
    impl_addDigits.l0 (K + 2) xs ys out c i = impl_addDigits.l0 K xs ys (out ++ [(c + (x + y)) % 4294967296]) ((c + (x + y)) / 4294967296) ((i + 1 : Nat) : Int) := by
  have e0 : impl_addDigits.l0 (K + 2) xs ys out c i = impl_addDigits.j1 (K + 1) xs ys out c i true := by
    conv => lhs; unfold impl_addDigits.l0
    by_cases c1 : (i : Int) < (xs.length : Int)
    · rw [if_pos c1]
    · rw [if_neg c1]
      by_cases c2 : (i : Int) < (ys.length : Int)
      · rw [if_pos c2]
      · rw [if_neg c2]
        have c3 : c > 0 := by omega
        rw [decide_eq_true c3]
  rw [e0]
  conv => lhs; unfold impl_addDigits.j1
  have g0 : (0 : Int) ≤ (i : Int) := by omega
  have g1 : out.length < 35184372088832 := by omega
  have s1 : IntKind.u64.wrap x = x := u64_small x0 (by omega)
  have s2 : IntKind.u64.wrap y = y := u64_small y0 (by omega)
  have s3 : IntKind.u64.wrap (c + x) = c + x := u64_small (by omega) (by omega)
  have s4 : IntKind.u64.wrap (c + x + y) = c + x + y := u64_small (by omega) (by omega)
  have s5 : IntKind.u64.wrap (c + y) = c + y := u64_small (by omega) (by omega)
  rw [if_pos rfl, hx, hy, wr_succ (by omega), s1, s2, s3, s4, s5]
  by_cases c1 : (i : Int) < (xs.length : Int)
  · rw [if_pos c1, if_pos g0]
    by_cases c2 : (i : Int) < (ys.length : Int)
    · rw [if_pos c2, if_pos g1, Int.add_assoc]
    · have hy0 : y = 0 := by rw [← hy]; exact rd_out (by omega)
      rw [if_neg c2, if_pos g1, hy0, Int.add_zero]
  · have hx0 : x = 0 := by rw [← hx]; exact rd_out (by omega)
    rw [if_neg c1]
    by_cases c2 : (i : Int) < (ys.length : Int)
    · rw [if_pos c2, if_pos g0, if_pos g1, hx0, Int.zero_add]
    · have hy0 : y = 0 := by rw [← hy]; exact rd_out (by omega)
      rw [if_neg c2, if_pos g1, hx0, hy0, Int.zero_add, Int.add_zero]
theorem add_end (xs ys out : List Int) (i K : Nat) (hx : xs.length ≤ i) (hy : ys.length ≤ i) : impl_addDigits.l0 (K + 2) xs ys out 0 i = some out := by
  have c1 : ¬ (i : Int) < (xs.length : Int) := by omega
  have c2 : ¬ (i : Int) < (ys.length : Int) := by omega
  conv => lhs; unfold impl_addDigits.l0
  rw [if_neg c1, if_neg c2]
  rfl
theorem add_loop (xs ys : List Int) (hx : Digs xs) (hy : Digs ys) (hm : xs.length ≤ 1000) (hn : ys.length ≤ 1000) : ∀ (d i : Nat) (out : List Int) (c : Int), i + d = max xs.length ys.length + 1 → out.length = i → Digs out → 0 ≤ c → c ≤ 1 → (max xs.length ys.length < i → c = 0) → val out + 4294967296 ^ i * c = val (xs.take i) + val (ys.take i) →
    ∃ K r, impl_addDigits.l0 K xs ys out c i = some r ∧ Digs r ∧ val r = val xs + val ys
  | 0, i, out, c, hi, hl, ho, c0, c1, hc, hv => by
    have hc0 : c = 0 := hc (by omega)
    subst hc0
    refine ⟨0 + 2, out, add_end xs ys out i 0 (by omega) (by omega), ho, ?_⟩
    rw [List.take_of_length_le (by omega), List.take_of_length_le (by omega)] at hv
    omega
  | d + 1, i, out, c, hi, hl, ho, c0, c1, hc, hv => by
    by_cases hgo : i < xs.length ∨ i < ys.length ∨ 0 < c
    · have hx' := rd_digs hx (i : Int)
      have hy' := rd_digs hy (i : Int)
      obtain ⟨x, hxx⟩ : ∃ x, rd xs (i : Int) = x := ⟨_, rfl⟩
      obtain ⟨y, hyy⟩ : ∃ y, rd ys (i : Int) = y := ⟨_, rfl⟩
      rw [hxx] at hx'; rw [hyy] at hy'
      obtain ⟨K, r, h1, h2, h3⟩ := add_loop xs ys hx hy hm hn d (i + 1) (out ++ [(c + (x + y)) % 4294967296]) ((c + (x + y)) / 4294967296) (by omega) (by simp [hl]) (digs_append ho (by intro z hz; simp only [List.mem_singleton] at hz; subst hz; omega)) (by omega) (by omega) (fun h => by
        have a1 : x = 0 := by rw [← hxx]; exact rd_out (by omega)
        have a2 : y = 0 := by rw [← hyy]; exact rd_out (by omega)
        subst a1; subst a2; omega) (by
        rw [val_snoc, hl, val_take_next, val_take_next, hxx, hyy, Int.pow_succ, Int.mul_assoc]
        have e : (4294967296 : Int) ^ i * ((c + (x + y)) % 4294967296) + 4294967296 ^ i * (4294967296 * ((c + (x + y)) / 4294967296)) = 4294967296 ^ i * c + (4294967296 ^ i * x + 4294967296 ^ i * y) := by
          rw [← Int.mul_add, ← Int.mul_add, ← Int.mul_add]; congr 1; omega
        omega)
      refine ⟨K + 2, r, ?_, h2, h3⟩
      rw [add_step xs ys out c x y i K (by omega) hl hxx hyy c0 c1 hx'.1 hx'.2 hy'.1 hy'.2 hgo]
      exact h1
    · have hc0 : c = 0 := by omega
      subst hc0
      refine ⟨0 + 2, out, add_end xs ys out i 0 (by omega) (by omega), ho, ?_⟩
      rw [List.take_of_length_le (by omega), List.take_of_length_le (by omega)] at hv
      omega
theorem mx_nat (m n : Nat) : mx (m : Int) (n : Int) = ((max m n : Nat) : Int) := by unfold mx; split <;> omega
theorem addDigits_eq (xs ys : List Int) (hx : Digs xs) (hy : Digs ys) (hm : xs.length ≤ 1000) (hn : ys.length ≤ 1000) : ∃ k r, impl_addDigits.f k xs ys = some r ∧ Digs r ∧ val r = val xs + val ys := by
  obtain ⟨K, r, h1, h2, h3⟩ := add_loop xs ys hx hy hm hn (max xs.length ys.length + 1) 0 [] 0 (by omega) rfl (fun x hx => by simp at hx) (by omega) (by omega) (fun _ => rfl) (by simp [val])
  refine ⟨K, r, ?_, h2, h3⟩
  unfold impl_addDigits.f
  rw [mx_nat, wr_succ (by omega), if_pos (by omega), if_pos (by omega)]
  exact h1
theorem sub_step (xs ys out : List Int) (c x y : Int) (i K : Nat) (hi : i < xs.length) (hm : xs.length ≤ 1000) (ho : out.length = xs.length) (hx : rd xs (i : Int) = x) (hy : rd ys (i : Int) = y) (c0 : 0 ≤ c) (c1 : c ≤ 1) (x0 : 0 ≤ x) (x1 : x < 4294967296) (y0 : 0 ≤ y) (y1 : y < 4294967296) :
    impl_subDigits.l0 (K + 1) ys out c xs (xs.length : Int) i = impl_subDigits.l0 K ys (out.set i ((x - (c + y)) % 4294967296)) (if x < c + y then 1 else 0) xs (xs.length : Int) ((i + 1 : Nat) : Int) := by
  have g0 : (0 : Int) ≤ (i : Int) := by omega
  have g1 : (i : Int) < (xs.length : Int) := by omega
  have g2 : (i : Int) < (out.length : Int) := by omega
  have t1 : (x - (c + y)) % 18446744073709551616 % 4294967296 = (x - (c + y)) % 4294967296 := by omega
  have t2 : (x - c) % 18446744073709551616 % 4294967296 = (x - c) % 4294967296 := by omega
  have s1 : IntKind.u64.wrap x = x := u64_small x0 (by omega)
  have s2 : IntKind.u64.wrap y = y := u64_small y0 (by omega)
  have s3 : IntKind.u64.wrap (c + y) = c + y := u64_small (by omega) (by omega)
  conv => lhs; unfold impl_subDigits.l0
  rw [if_pos g1, if_pos g0, if_pos g1, hx, hy, wr_succ (by omega), s1, s2, s3, wu64, wu64, t1, t2, Int.toNat_natCast]
  by_cases c2 : (i : Int) < (ys.length : Int)
  · rw [if_pos c2, if_pos g2, Option.bind_some]
    by_cases c3 : x < c + y
    · rw [if_pos c3, if_pos c3]
    · rw [if_neg c3, if_neg c3]
  · have hy0 : y = 0 := by rw [← hy]; exact rd_out (by omega)
    rw [if_neg c2, if_pos g2, Option.bind_some, hy0, Int.add_zero]
    by_cases c3 : x < c
    · rw [if_pos c3, if_pos c3]
    · rw [if_neg c3, if_neg c3]
theorem take_set_next (l : List Int) (i : Nat) (x : Int) (h : i < l.length) : val ((l.set i x).take (i + 1)) = val (l.take i) + 4294967296 ^ i * x := by
  rw [val_take_succ _ i (by simpa using h), rd_set, if_pos ⟨rfl, h⟩]
  congr 2
  rw [List.take_set_of_le (Nat.le_refl i)]
theorem sub_loop (xs ys : List Int) (hx : Digs xs) (hy : Digs ys) (hm : xs.length ≤ 1000) : ∀ (d i : Nat) (out : List Int) (c : Int), i + d = xs.length → out.length = xs.length → Digs out → 0 ≤ c → c ≤ 1 → val (out.take i) = val (xs.take i) - val (ys.take i) + 4294967296 ^ i * c →
    ∃ K r c', impl_subDigits.l0 K ys out c xs (xs.length : Int) i = some r ∧ Digs r ∧ r.length = xs.length ∧ 0 ≤ c' ∧ c' ≤ 1 ∧ val r = val xs - val (ys.take xs.length) + 4294967296 ^ xs.length * c'
  | 0, i, out, c, hi, hl, ho, c0, c1, hv => by
    have e : i = xs.length := by omega
    subst e
    refine ⟨1, out, c, ?_, ho, hl, c0, c1, ?_⟩
    · have g : ¬ (xs.length : Int) < (xs.length : Int) := by omega
      unfold impl_subDigits.l0
      rw [if_neg g]
    · rw [List.take_of_length_le (by omega), List.take_of_length_le (Nat.le_refl _)] at hv
      exact hv
  | d + 1, i, out, c, hi, hl, ho, c0, c1, hv => by
    have hx' := rd_digs hx (i : Int)
    have hy' := rd_digs hy (i : Int)
    obtain ⟨x, hxx⟩ : ∃ x, rd xs (i : Int) = x := ⟨_, rfl⟩
    obtain ⟨y, hyy⟩ : ∃ y, rd ys (i : Int) = y := ⟨_, rfl⟩
    rw [hxx] at hx'; rw [hyy] at hy'
    obtain ⟨K, r, c', h1, h2⟩ := sub_loop xs ys hx hy hm d (i + 1) (out.set i ((x - (c + y)) % 4294967296)) (if x < c + y then 1 else 0) (by omega) (by simpa using hl) (digs_set ho _ (by omega) (by omega)) (by split <;> omega) (by split <;> omega) (by
      rw [take_set_next _ _ _ (by omega), hv, val_take_next, val_take_next, hxx, hyy, Int.pow_succ, Int.mul_assoc]
      have e : (4294967296 : Int) ^ i * ((x - (c + y)) % 4294967296) = 4294967296 ^ i * x - 4294967296 ^ i * y - 4294967296 ^ i * c + 4294967296 ^ i * (4294967296 * (if x < c + y then 1 else 0)) := by
        rw [← Int.mul_sub, ← Int.mul_sub, ← Int.mul_add]; congr 1; split <;> omega
      omega)
    refine ⟨K + 1, r, c', ?_, h2⟩
    rw [sub_step xs ys out c x y i K (by omega) hm hl hxx hyy c0 c1 hx'.1 hx'.2 hy'.1 hy'.2]
    exact h1
theorem subDigits_eq (xs ys : List Int) (hx : Digs xs) (hy : Can ys) (hm : xs.length ≤ 1000) (hle : val ys ≤ val xs) : ∃ k r, impl_subDigits.f k xs ys = some r ∧ Digs r ∧ val r = val xs - val ys := by
  have hn : ys.length ≤ xs.length := can_len hy (by have := val_lt xs hx; omega)
  obtain ⟨K, r, c', h1, h2, h3, h4, h5, h6⟩ := sub_loop xs ys hx hy.1 hm xs.length 0 (List.replicate xs.length 0) 0 (by omega) (by simp) (digs_replicate _) (by omega) (by omega) (by simp [val])
  rw [List.take_of_length_le hn] at h6
  have hc : c' = 0 := by
    have a1 := val_lt r h2
    rw [h3] at a1
    rcases (show c' = 0 ∨ c' = 1 by omega) with rfl | rfl
    · rfl
    · omega
  subst hc
  refine ⟨K, r, ?_, h2, by omega⟩
  unfold impl_subDigits.f
  rw [if_pos (by omega), Int.toNat_natCast, if_pos (by omega)]
  exact h1
theorem cmp_loop (xs ys : List Int) (hx : Digs xs) (hy : Digs ys) (hl : xs.length = ys.length) (hm : xs.length ≤ 1000) : ∀ (i : Nat), i ≤ xs.length → val xs - val ys = val (xs.take i) - val (ys.take i) → ∃ K r, impl_compareDigits.l0 K xs ys ((i : Int) - 1) = some r ∧ (0 ≤ r ↔ val ys ≤ val xs)
  | 0, hi, hv => by
    refine ⟨1, 0, ?_, ?_⟩
    · have g : ¬ ((0 : Nat) : Int) - 1 ≥ 0 := by omega
      unfold impl_compareDigits.l0
      rw [if_neg g]
    · simp only [List.take_zero, val] at hv; omega
  | i + 1, hi, hv => by
    have hx' := rd_digs hx (i : Int)
    have hy' := rd_digs hy (i : Int)
    obtain ⟨x, hxx⟩ : ∃ x, rd xs (i : Int) = x := ⟨_, rfl⟩
    obtain ⟨y, hyy⟩ : ∃ y, rd ys (i : Int) = y := ⟨_, rfl⟩
    rw [hxx] at hx'; rw [hyy] at hy'
    rw [val_take_succ xs i (by omega), val_take_succ ys i (by omega), hxx, hyy] at hv
    have a1 := val_lt (xs.take i) (digs_take hx i)
    have a2 := val_lt (ys.take i) (digs_take hy i)
    have a3 := val_nonneg (xs.take i) (digs_take hx i)
    have a4 := val_nonneg (ys.take i) (digs_take hy i)
    rw [List.length_take, Nat.min_eq_left (by omega)] at a1 a2
    have e : ((i + 1 : Nat) : Int) - 1 = (i : Int) := by omega
    have g0 : (i : Int) ≥ 0 := by omega
    have g1 : (i : Int) < (xs.length : Int) := by omega
    have g2 : (i : Int) < (ys.length : Int) := by omega
    have hw : wrap64 ((i : Int) - 1) = (i : Int) - 1 := w64 (by omega) (by omega)
    by_cases c1 : x = y
    · subst c1
      obtain ⟨K, r, h1, h2⟩ := cmp_loop xs ys hx hy hl hm i (by omega) (by omega)
      refine ⟨K + 1, r, ?_, h2⟩
      unfold impl_compareDigits.l0
      rw [e, if_pos g0, if_pos g0, if_pos g1, if_pos g2, hxx, hyy, if_pos rfl, hw]
      exact h1
    · by_cases c2 : x < y
      · refine ⟨1, -1, ?_, ?_⟩
        · unfold impl_compareDigits.l0
          rw [e, if_pos g0, if_pos g0, if_pos g1, if_pos g2, hxx, hyy, if_neg c1, if_pos c2]
        · have h3 : (4294967296 : Int) ^ i * x - 4294967296 ^ i * y ≤ - 4294967296 ^ i := by
            rw [← Int.mul_sub]
            have := Int.mul_le_mul_of_nonneg_left (show x - y ≤ -1 by omega) (Int.le_of_lt (pw_pos i))
            omega
          omega
      · refine ⟨1, 1, ?_, ?_⟩
        · unfold impl_compareDigits.l0
          rw [e, if_pos g0, if_pos g0, if_pos g1, if_pos g2, hxx, hyy, if_neg c1, if_neg c2]
        · have h3 : (4294967296 : Int) ^ i ≤ 4294967296 ^ i * x - 4294967296 ^ i * y := by
            rw [← Int.mul_sub]
            have := Int.mul_le_mul_of_nonneg_left (show 1 ≤ x - y by omega) (Int.le_of_lt (pw_pos i))
            omega
          omega
theorem can_longer {xs ys : List Int} (hx : Can xs) (hy : Digs ys) (h : ys.length < xs.length) : val ys < val xs := by
  have a1 := can_ge hx (by intro e; rw [e] at h; simp at h)
  have a2 := val_lt ys hy
  have a3 := pw_mono (show ys.length ≤ xs.length - 1 by omega)
  omega
theorem compareDigits_eq (xs ys : List Int) (hx : Can xs) (hy : Can ys) (hm : xs.length ≤ 1000) (hn : ys.length ≤ 1000) : ∃ k r, impl_compareDigits.f k xs ys = some r ∧ (0 ≤ r ↔ val ys ≤ val xs) := by
  by_cases c : xs.length = ys.length
  · obtain ⟨K, r, h1, h2⟩ := cmp_loop xs ys hx.1 hy.1 c hm xs.length (Nat.le_refl _) (by rw [List.take_of_length_le (Nat.le_refl _), List.take_of_length_le (by omega)])
    refine ⟨K, r, ?_, h2⟩
    have hw : wrap64 ((xs.length : Int) - 1) = (xs.length : Int) - 1 := w64 (by omega) (by omega)
    unfold impl_compareDigits.f
    rw [if_pos (by omega), hw]
    exact h1
  · have g : ¬ (xs.length : Int) = (ys.length : Int) := by omega
    have hw : wrap64 ((xs.length : Int) - (ys.length : Int)) = (xs.length : Int) - (ys.length : Int) := w64 (by omega) (by omega)
    refine ⟨0, mx (-1) (mn 1 ((xs.length : Int) - (ys.length : Int))), ?_, ?_⟩
    · unfold impl_compareDigits.f
      rw [if_neg g, hw]
    · clear hw
      rcases Nat.lt_or_ge ys.length xs.length with h | h
      · have := can_longer hx hy.1 h
        have e : mx (-1) (mn 1 ((xs.length : Int) - (ys.length : Int))) = 1 := by unfold mx mn; split <;> split <;> omega
        rw [e]; omega
      · have := can_longer hy hx.1 (show xs.length < ys.length by omega)
        have e : mx (-1) (mn 1 ((xs.length : Int) - (ys.length : Int))) = -1 := by unfold mx mn; split <;> split <;> omega
        rw [e]; omega
end Go.Proofs.YtdgohcdemnmieaaDoor.A

/- What doubled computes: digits times a power of 2. Conditions: at most 1000 digits, a power of at most 31. -/
namespace Go.Proofs.YtdgohcdemnmieaaDoor.A
set_option linter.unusedVariables false
set_option linter.unusedSimpArgs false
open Go.RowKit Go.Proofs.YtdgohcdemnmieaaDoorW.PrintWords Go.Proofs.YtdgohcdemnmieaaDoorW.PrintLast Go.Proofs.YtdgohcdemnmieaaDoorW.PrintMore
theorem or_low (a b : Int) (i : Nat) (h0 : 0 ≤ a) (h : a < 2 ^ i) (hb : 0 ≤ b) (hB : b * 2 ^ i < 18446744073709551616) (hA : a < 18446744073709551616) : bits .or .u64 a (b * 2 ^ i) = b * 2 ^ i + a := by
  obtain ⟨x, rfl⟩ := Int.eq_ofNat_of_zero_le h0
  obtain ⟨y, rfl⟩ := Int.eq_ofNat_of_zero_le hb
  have e1 : ((2 : Int) ^ i) = ((2 ^ i : Nat) : Int) := by push_cast; rfl
  exact or_u64' x y i (by rw [e1] at h; omega) (by rw [e1, ← Int.natCast_mul] at hB; omega) (by omega)
theorem or_high (a b : Int) (i : Nat) (h0 : 0 ≤ a) (h : a < 2 ^ i) (hb : 0 ≤ b) (hB : b * 2 ^ i < 18446744073709551616) (hA : a < 18446744073709551616) : bits .or .u64 (b * 2 ^ i) a = b * 2 ^ i + a := by
  obtain ⟨x, rfl⟩ := Int.eq_ofNat_of_zero_le h0
  obtain ⟨y, rfl⟩ := Int.eq_ofNat_of_zero_le hb
  have e1 : ((2 : Int) ^ i) = ((2 ^ i : Nat) : Int) := by push_cast; rfl
  exact or_u64 x y i (by rw [e1] at h; omega) (by rw [e1, ← Int.natCast_mul] at hB; omega) (by omega)
theorem two_pos (i : Nat) : (1 : Int) ≤ 2 ^ i := by have : (0 : Int) < 2 ^ i := Int.pow_pos (by omega); omega
theorem two_le {i : Nat} (h : i ≤ 31) : (2 : Int) ^ i ≤ 2147483648 := by
  have e : (2147483648 : Int) = 2 ^ 31 := rfl
  rw [e]
  exact_mod_cast Nat.pow_le_pow_right (by omega) h
theorem shl64 (x : Int) (i : Nat) (h : i ≤ 31) (h0 : 0 ≤ x * 2 ^ i) (h1 : x * 2 ^ i < 18446744073709551616) : shl .u64 x (i : Int) = x * 2 ^ i := by
  unfold shl
  rw [Int.toNat_natCast, Nat.min_eq_left (by show i ≤ 64; omega)]
  exact u64_small h0 h1
theorem dbl_step (xs out : List Int) (c x e p : Int) (i t K : Nat) (ht : t ≤ 31) (he : (2 : Int) ^ t = e) (hm : xs.length ≤ 1000) (hi : i < xs.length) (ho : i < out.length) (hx : rd xs (i : Int) = x) (x0 : 0 ≤ x) (x1 : x < 4294967296) (c0 : 0 ≤ c) (c1 : c < e) (hp : x * e = p) (p0 : 0 ≤ p) (p1 : p ≤ 4294967295 * e) :
    impl_doubled.l0 (K + 1) xs t out c xs (xs.length : Int) i = impl_doubled.l0 K xs t (out.set i ((p + c) % 4294967296)) ((p + c) / 4294967296) xs (xs.length : Int) ((i + 1 : Nat) : Int) := by
  have e1 := two_le ht
  rw [he] at e1
  have g0 : (0 : Int) ≤ (i : Int) := by omega
  have g1 : (i : Int) < (xs.length : Int) := by omega
  have g2 : (0 : Int) ≤ (t : Int) := by omega
  have g3 : (i : Int) < (out.length : Int) := by omega
  have s1 : IntKind.u64.wrap x = x := u64_small x0 (by omega)
  have s2 : shl .u64 x (t : Int) = x * e := by rw [← he]; exact shl64 x t ht (by rw [he, hp]; exact p0) (by rw [he, hp]; omega)
  have s3 : bits .or .u64 c (x * e) = p + c := by rw [← hp, ← he]; exact or_low c x t c0 (by rw [he]; exact c1) x0 (by rw [he, hp]; omega) (by omega)
  conv => lhs; unfold impl_doubled.l0
  rw [if_pos g1, if_pos g0, if_pos g1, if_pos g2, if_pos g3, hx, s1, s2, s3, wr_succ (by omega), Int.toNat_natCast]
theorem dbl_loop (xs : List Int) (hx : Digs xs) (hm : xs.length ≤ 1000) (t : Nat) (ht : t ≤ 31) (e : Int) (he : (2 : Int) ^ t = e) : ∀ (d i : Nat) (out : List Int) (c : Int), i + d = xs.length → out.length = xs.length + 1 → Digs out → 0 ≤ c → c < e → val (out.take i) + 4294967296 ^ i * c = e * val (xs.take i) →
    ∃ r, (∀ K, impl_doubled.l0 (K + (d + 1)) xs t out c xs (xs.length : Int) i = some r) ∧ Digs r ∧ r.length = xs.length + 1 ∧ val r = e * val xs
  | 0, i, out, c, hi, hl, ho, c0, c1, hv => by
    have e1 := two_le ht
    rw [he] at e1
    have e : i = xs.length := by omega
    subst e
    have g0 : ¬ (xs.length : Int) < (xs.length : Int) := by omega
    have g1 : (0 : Int) ≤ (xs.length : Int) := by omega
    have g2 : (xs.length : Int) < (out.length : Int) := by omega
    have g3 : c % 4294967296 = c := by omega
    refine ⟨out.set xs.length c, fun K => ?_, digs_set ho _ c0 (by omega), by simp [hl], ?_⟩
    · rw [Nat.zero_add]
      unfold impl_doubled.l0
      rw [if_neg g0, if_pos g1, if_pos g2, Int.toNat_natCast, g3]
    · have h := take_set_next out xs.length c (by omega)
      rw [List.take_of_length_le (by simp [hl])] at h
      rw [h, hv, List.take_length]
  | d + 1, i, out, c, hi, hl, ho, c0, c1, hv => by
    have hx' := rd_digs hx (i : Int)
    obtain ⟨x, hxx⟩ : ∃ x, rd xs (i : Int) = x := ⟨_, rfl⟩
    rw [hxx] at hx'
    obtain ⟨p, hp⟩ : ∃ p, x * e = p := ⟨_, rfl⟩
    have p0 : 0 ≤ p := by rw [← hp]; exact Int.mul_nonneg hx'.1 (by omega)
    have p1 : p ≤ 4294967295 * e := by rw [← hp]; exact Int.mul_le_mul_of_nonneg_right (by omega) (by omega)
    obtain ⟨r, h1, h2⟩ := dbl_loop xs hx hm t ht e he d (i + 1) (out.set i ((p + c) % 4294967296)) ((p + c) / 4294967296) (by omega) (by simpa using hl) (digs_set ho _ (by omega) (by omega)) (by omega) (by omega) (by
      rw [take_set_next _ _ _ (by omega), val_take_next, hxx]
      have e2 : 4294967296 * ((p + c) / 4294967296) + (p + c) % 4294967296 = p + c := by omega
      have e3 : e * (val (xs.take i) + 4294967296 ^ i * x) = val (out.take i) + 4294967296 ^ i * c + 4294967296 ^ i * p := by rw [hv, ← hp]; grind
      rw [e3, Int.pow_succ]
      have e4 : (4294967296 : Int) ^ i * ((p + c) % 4294967296) + 4294967296 ^ i * 4294967296 * ((p + c) / 4294967296) = 4294967296 ^ i * (p + c) := by rw [← e2]; grind
      rw [Int.add_assoc, e4]; grind)
    refine ⟨r, fun K => ?_, h2⟩
    rw [show K + (d + 1 + 1) = K + (d + 1) + 1 by omega, dbl_step xs out c x e p i t (K + (d + 1)) ht he hm (by omega) (by omega) hxx hx'.1 hx'.2 c0 c1 hp p0 p1]
    exact h1 K
theorem doubled_eq (xs : List Int) (hx : Digs xs) (hm : xs.length ≤ 1000) (t : Nat) (ht : t ≤ 31) : ∃ r, (∀ K, impl_doubled.f (K + (xs.length + 1)) xs t = some r) ∧ Digs r ∧ r.length = xs.length + 1 ∧ val r = 2 ^ t * val xs := by
  obtain ⟨r, h1, h2⟩ := dbl_loop xs hx hm t ht (2 ^ t) rfl xs.length 0 (List.replicate (xs.length + 1) 0) 0 (by omega) (by simp) (digs_replicate _) (by omega) (by have := two_pos t; omega) (by simp [val])
  refine ⟨r, fun K => ?_, h2⟩
  unfold impl_doubled.f
  rw [wr_succ (by omega), if_pos (by omega), Int.toNat_natCast, if_pos (by omega)]
  exact h1 K
end Go.Proofs.YtdgohcdemnmieaaDoor.A

/- The steps of divideDigits: the estimate of a digit, what is taken away, what is added back, what is shifted. No conditions. -/
namespace Go.Proofs.YtdgohcdemnmieaaDoor.A
set_option linter.unusedVariables false
set_option linter.unusedSimpArgs false
open Go.RowKit Go.Proofs.YtdgohcdemnmieaaDoorW.PrintWords Go.Proofs.YtdgohcdemnmieaaDoorW.PrintLast Go.Proofs.YtdgohcdemnmieaaDoorW.PrintMore
theorem kn_le {A D P s t q : Int} (hP : 0 < P) (h1 : A < (t + 1) * P) (h2 : s * P ≤ D) (hq : q * D ≤ A) (q0 : 0 ≤ q) : q * s ≤ t := by
  have h3 : q * (s * P) ≤ q * D := Int.mul_le_mul_of_nonneg_left h2 q0
  have h4 : (q * s) * P < (t + 1) * P := by rw [Int.mul_assoc]; omega
  have := Int.lt_of_mul_lt_mul_right h4 (Int.le_of_lt hP)
  omega
theorem kn_up {A D P w t q : Int} (hP : 0 < P) (h : q * w ≤ t) (hA : t * P ≤ A) (hD : D ≤ (w + 1) * P) (hq : q ≤ w + 1) (q1 : 1 ≤ q) : (q - 1) * D ≤ A := by
  have h3 : (q - 1) * D ≤ (q - 1) * ((w + 1) * P) := Int.mul_le_mul_of_nonneg_left hD (by omega)
  have h4 : (q - 1) * ((w + 1) * P) = (q * w + q - w - 1) * P := by grind
  have h5 : (q * w + q - w - 1) * P ≤ t * P := Int.mul_le_mul_of_nonneg_right (by omega) (Int.le_of_lt hP)
  omega
theorem wr_pred {n : Nat} (h : 1 ≤ n) (h1 : n ≤ 4000000000) : wrap64 ((n : Int) - 1) = ((n - 1 : Nat) : Int) := by rw [w64 (by omega) (by omega)]; omega
theorem or32 (b a : Int) (b0 : 0 ≤ b) (b1 : b < 4294967296) (a0 : 0 ≤ a) (a1 : a < 4294967296) : bits .or .u64 (b * 4294967296) a = b * 4294967296 + a := by
  have h := or_high a b 32 a0 (by show a < 4294967296; omega) b0 (by show b * 4294967296 < 18446744073709551616; omega) (by omega)
  exact h
theorem adj_step (n K : Nat) (x7 x11 x12 q rest v1 th : Int) (u v out : List Int) (hn : 1 ≤ n) (hn1 : n ≤ 1000) (hv : v.length = n) (hv1 : rd v ((n - 1 : Nat) : Int) = v1) (v0 : 0 ≤ v1) (v2 : v1 < 4294967296) (r0 : 0 ≤ rest) (q1 : 1 ≤ q) (q2 : q < 8589934592) (s0 : 0 ≤ x11) (s1 : x11 < 4294967296) (t0 : 0 ≤ th) (t1 : th < 4294967296) (hr : rest < 4294967296) (hgo : 4294967296 ≤ q ∨ rest * 4294967296 + th < q * x11) :
    impl_divideDigits.l2 (K + 1) n x7 u v out x11 x12 q rest th = impl_divideDigits.l2 K n x7 u v out x11 x12 (q - 1) (rest + v1) th := by
  have g1 : (0 : Int) ≤ ((n - 1 : Nat) : Int) := by omega
  have g2 : ((n - 1 : Nat) : Int) < (v.length : Int) := by omega
  have w1 : IntKind.u64.wrap (q - 1) = q - 1 := u64_small (by omega) (by omega)
  have w2 : IntKind.u64.wrap v1 = v1 := u64_small v0 (by omega)
  have w3 : IntKind.u64.wrap (rest + v1) = rest + v1 := u64_small (by omega) (by omega)
  have w4 : IntKind.u64.wrap (rest * 4294967296) = rest * 4294967296 := u64_small (by omega) (by omega)
  have w5 : bits .or .u64 (rest * 4294967296) th = rest * 4294967296 + th := or32 rest th r0 hr t0 t1
  conv => lhs; unfold impl_divideDigits.l2
  rw [if_pos hr, wr_pred hn (by omega), if_pos g1, if_pos g2, hv1, w1, w2, w3, w4, w5]
  by_cases c : q ≥ 4294967296
  · rw [if_pos c]
  · have p0 : 0 ≤ q * x11 := Int.mul_nonneg (by omega) s0
    have p1 : q * x11 ≤ 4294967295 * 4294967295 := Int.mul_le_mul (by omega) (by omega) s0 (by omega)
    have w6 : IntKind.u64.wrap (q * x11) = q * x11 := u64_small p0 (by omega)
    have c2 : q * x11 > rest * 4294967296 + th := hgo.resolve_left (by omega)
    rw [if_neg c, w6, if_pos c2]
theorem adj_end (n K : Nat) (x7 x11 x12 q rest th : Int) (u v out : List Int) (r0 : 0 ≤ rest) (q0 : 0 ≤ q) (s0 : 0 ≤ x11) (s1 : x11 < 4294967296) (t0 : 0 ≤ th) (t1 : th < 4294967296) (hgo : ¬ (rest < 4294967296 ∧ (4294967296 ≤ q ∨ rest * 4294967296 + th < q * x11))) :
    impl_divideDigits.l2 (K + 1) n x7 u v out x11 x12 q rest th = impl_divideDigits.j5 K n x7 u v out x11 x12 q := by
  conv => lhs; unfold impl_divideDigits.l2
  by_cases hr : rest < 4294967296
  · have c : ¬ q ≥ 4294967296 := fun h => hgo ⟨hr, Or.inl h⟩
    have p0 : 0 ≤ q * x11 := Int.mul_nonneg (by omega) s0
    have p1 : q * x11 ≤ 4294967295 * 4294967295 := Int.mul_le_mul (by omega) (by omega) s0 (by omega)
    have c2 : ¬ q * x11 > rest * 4294967296 + th := fun h => hgo ⟨hr, Or.inr h⟩
    have w4 : IntKind.u64.wrap (rest * 4294967296) = rest * 4294967296 := u64_small (by omega) (by omega)
    have w5 : bits .or .u64 (rest * 4294967296) th = rest * 4294967296 + th := or32 rest th r0 hr t0 t1
    have w6 : IntKind.u64.wrap (q * x11) = q * x11 := u64_small p0 (by omega)
    rw [if_pos hr, if_neg c, w4, w5, w6, if_neg c2]
  · rw [if_neg hr]
theorem adj_loop (n : Nat) (x7 x11 x12 v1 th two Q : Int) (u v out : List Int) (hn : 1 ≤ n) (hn1 : n ≤ 1000) (hv : v.length = n) (hv1 : rd v ((n - 1 : Nat) : Int) = v1) (v0 : 2147483648 ≤ v1) (v2 : v1 < 4294967296) (s0 : 0 ≤ x11) (s1 : x11 < 4294967296) (t0 : 0 ≤ th) (t1 : th < 4294967296) (Q0 : 0 ≤ Q) (QB : Q < 4294967296) (htwo : two < (v1 + 1) * 4294967296)
    (H1 : ∀ q rest, 0 ≤ q → 0 ≤ rest → q * v1 + rest = two → rest * 4294967296 + th < q * x11 → Q < q) (H2 : ∀ q rest, 0 ≤ q → q < 4294967296 → 0 ≤ rest → q * v1 + rest = two → q * x11 ≤ rest * 4294967296 + th → q ≤ Q + 1) (H3 : ∀ q rest, 0 ≤ q → q < 4294967296 → q * v1 + rest = two → 4294967296 ≤ rest → q ≤ Q + 1) :
    ∀ (d : Nat) (q rest : Int), q = Q + d → 0 ≤ rest → rest < 8589934592 → q * v1 + rest = two → ∃ q', Q ≤ q' ∧ q' ≤ Q + 1 ∧ q' < 4294967296 ∧ ∃ s, ∀ K, impl_divideDigits.l2 (K + s) n x7 u v out x11 x12 q rest th = impl_divideDigits.j5 K n x7 u v out x11 x12 q' := by
  intro d
  induction d with
  | zero =>
    intro q rest hq r0 r1 he
    have hgo : ¬ (rest < 4294967296 ∧ (4294967296 ≤ q ∨ rest * 4294967296 + th < q * x11)) := by
      rintro ⟨h1, h2 | h2⟩
      · omega
      · have := H1 q rest (by omega) r0 he h2; omega
    exact ⟨q, by omega, by omega, by omega, 1, fun K => adj_end n K x7 x11 x12 q rest th u v out r0 (by omega) s0 s1 t0 t1 hgo⟩
  | succ d ih =>
    intro q rest hq r0 r1 he
    have q0 : 0 ≤ q := by omega
    by_cases hgo : rest < 4294967296 ∧ (4294967296 ≤ q ∨ rest * 4294967296 + th < q * x11)
    · obtain ⟨q', h1, h2, h3, s, h4⟩ := ih (q - 1) (rest + v1) (by omega) (by omega) (by omega) (by rw [Int.sub_mul]; omega)
      have q2 : q < 8589934592 := by
        rcases Int.lt_or_le q 8589934592 with h | h
        · exact h
        · have := Int.mul_le_mul_of_nonneg_right h (show 0 ≤ v1 by omega)
          omega
      refine ⟨q', h1, h2, h3, s + 1, fun K => ?_⟩
      rw [show K + (s + 1) = K + s + 1 by omega, adj_step n (K + s) x7 x11 x12 q rest v1 th u v out hn hn1 hv hv1 (by omega) v2 r0 (by omega) q2 s0 s1 t0 t1 hgo.1 hgo.2]
      exact h4 K
    · have hB : 4294967296 ≤ q → rest < 4294967296 := fun h => by
        have := Int.mul_le_mul_of_nonneg_right h (show 0 ≤ v1 by omega)
        omega
      have qB : q < 4294967296 := by
        rcases Int.lt_or_le q 4294967296 with h | h
        · exact h
        · exact absurd ⟨hB h, Or.inl h⟩ hgo
      have hle : q ≤ Q + 1 := by
        by_cases hr : rest < 4294967296
        · exact H2 q rest q0 qB r0 he (by
            rcases Int.lt_or_le (rest * 4294967296 + th) (q * x11) with h | h
            · exact absurd ⟨hr, Or.inr h⟩ hgo
            · exact h)
        · exact H3 q rest q0 qB he (by omega)
      exact ⟨q, by omega, hle, qB, 1, fun K => adj_end n K x7 x11 x12 q rest th u v out r0 q0 s0 s1 t0 t1 hgo⟩
theorem ms_step (n j i K : Nat) (x7 x11 q c x y s : Int) (u v out : List Int) (hn1 : n ≤ 1000) (hj : j ≤ 2000) (hv : v.length = n) (hi : i < n) (hl : i + j < u.length) (hx : rd u ((i + j : Nat) : Int) = x) (hy : rd v (i : Int) = y) (x0 : 0 ≤ x) (x1 : x < 4294967296) (y0 : 0 ≤ y) (y1 : y < 4294967296) (hs : c + q * y = s) (q0 : 0 ≤ q * y) (q1 : q * y ≤ 4294967295 * 4294967295) (c0 : 0 ≤ c) (c1 : c < 4294967296) :
    impl_divideDigits.l3 (K + 1) n x7 u v out x11 j q c v (v.length : Int) i = impl_divideDigits.l3 K n x7 (u.set (i + j) ((x - s % 4294967296) % 4294967296)) v out x11 j q (s / 4294967296 + (if x < s % 4294967296 then 1 else 0)) v (v.length : Int) ((i + 1 : Nat) : Int) := by
  have g1 : (i : Int) < (v.length : Int) := by omega
  have g2 : (0 : Int) ≤ (i : Int) := by omega
  have g3 : (0 : Int) ≤ ((i + j : Nat) : Int) := by omega
  have g4 : ((i + j : Nat) : Int) < (u.length : Int) := by omega
  have b0 : 0 ≤ s := by omega
  have b1 : s < 18446744073709551616 := by omega
  have t1 : (x - s % 4294967296) % 18446744073709551616 % 4294967296 = (x - s % 4294967296) % 4294967296 := by omega
  have t2 : IntKind.u64.wrap (s / 4294967296 + 1) = s / 4294967296 + 1 := u64_small (by omega) (by omega)
  have w1 : IntKind.u64.wrap x = x := u64_small x0 (by omega)
  have w2 : IntKind.u64.wrap y = y := u64_small y0 (by omega)
  have w3 : IntKind.u64.wrap (q * y) = q * y := u64_small q0 (by omega)
  have w4 : IntKind.u64.wrap s = s := u64_small b0 b1
  have w5 : bits .and .u64 s 4294967295 = s % 4294967296 := and_low s b0 b1
  conv => lhs; unfold impl_divideDigits.l3
  rw [if_pos g1, if_pos g2, if_pos g1, wr_add (by omega), wr_succ (by omega), if_pos g3, if_pos g4, hx, hy, w1, w2, w3, hs, w4, w5, wu64, t1, t2, Int.toNat_natCast, Option.bind_some]
  by_cases h : x < s % 4294967296
  · rw [if_pos h, if_pos h]
  · rw [if_neg h, if_neg h, Int.add_zero]
theorem ms_loop (n j : Nat) (x7 x11 q : Int) (v out : List Int) (hvd : Digs v) (hn1 : n ≤ 1000) (hj : j ≤ 2000) (hv : v.length = n) (q0 : 0 ≤ q) (q1 : q < 4294967296) : ∀ (d i : Nat) (u : List Int) (c : Int), i + d = n → Digs u → j + n < u.length → 0 ≤ c → c < 4294967296 →
    ∃ u' c', Digs u' ∧ u'.length = u.length ∧ 0 ≤ c' ∧ c' < 4294967296 ∧ val u' + q * 4294967296 ^ j * (val v - val (v.take i)) + 4294967296 ^ (i + j) * c = val u + 4294967296 ^ (n + j) * c' ∧ (∀ p : Nat, j + n ≤ p → rd u' (p : Int) = rd u (p : Int)) ∧
      ∀ K, impl_divideDigits.l3 (K + d) n x7 u v out x11 j q c v (v.length : Int) i = impl_divideDigits.l3 K n x7 u' v out x11 j q c' v (v.length : Int) (n : Int) := by
  intro d
  induction d with
  | zero =>
    intro i u c hi hu hl c0 c1
    have e : i = n := by omega
    subst e
    refine ⟨u, c, hu, rfl, c0, c1, ?_, fun p _ => rfl, fun K => rfl⟩
    rw [List.take_of_length_le (by omega), Int.sub_self, Int.mul_zero, Int.add_zero]
  | succ d ih =>
    intro i u c hi hu hl c0 c1
    have hy' := rd_digs hvd (i : Int)
    have hx' := rd_digs hu ((i + j : Nat) : Int)
    obtain ⟨y, hyy⟩ : ∃ y, rd v (i : Int) = y := ⟨_, rfl⟩
    obtain ⟨x, hxx⟩ : ∃ x, rd u ((i + j : Nat) : Int) = x := ⟨_, rfl⟩
    rw [hyy] at hy'; rw [hxx] at hx'
    have p0 : 0 ≤ q * y := Int.mul_nonneg q0 hy'.1
    have p1 : q * y ≤ 4294967295 * 4294967295 := Int.mul_le_mul (by omega) (by omega) hy'.1 (by omega)
    obtain ⟨s, hs⟩ : ∃ s, c + q * y = s := ⟨_, rfl⟩
    obtain ⟨u', c', h1, h2, h3, h4, h5, h6, h7⟩ := ih (i + 1) (u.set (i + j) ((x - s % 4294967296) % 4294967296)) (s / 4294967296 + (if x < s % 4294967296 then 1 else 0)) (by omega) (digs_set hu _ (by omega) (by omega)) (by simpa using hl) (by split <;> omega) (by split <;> omega)
    refine ⟨u', c', h1, by simpa using h2, h3, h4, ?_, fun p hp => ?_, fun K => ?_⟩
    · rw [val_take_succ v i (by omega), hyy, val_set u (i + j) _ (by omega), hxx] at h5
      have e1 : (4294967296 : Int) ^ (i + 1 + j) = 4294967296 ^ (i + j) * 4294967296 := by rw [← Int.pow_succ]; congr 1; omega
      have e2 : (4294967296 : Int) ^ (i + j) = 4294967296 ^ i * 4294967296 ^ j := Int.pow_add ..
      have e3 : ((x - s % 4294967296) % 4294967296 - x) - 4294967296 * (s / 4294967296 + (if x < s % 4294967296 then 1 else 0)) = -s := by split <;> omega
      rw [e1] at h5
      have e4 : (4294967296 : Int) ^ (i + j) * ((x - s % 4294967296) % 4294967296 - x) - 4294967296 ^ (i + j) * 4294967296 * (s / 4294967296 + (if x < s % 4294967296 then 1 else 0)) = 4294967296 ^ (i + j) * (-s) := by
        rw [← e3, Int.mul_assoc, ← Int.mul_sub]
      have e5 : q * 4294967296 ^ j * (val v - (val (v.take i) + 4294967296 ^ i * y)) = q * 4294967296 ^ j * (val v - val (v.take i)) - 4294967296 ^ (i + j) * (q * y) := by rw [e2]; grind
      have e6 : (4294967296 : Int) ^ (i + j) * (-s) = - (4294967296 ^ (i + j) * c) - 4294967296 ^ (i + j) * (q * y) := by rw [← hs]; grind
      rw [e5] at h5
      omega
    · rw [h6 p hp, rd_set, if_neg (by omega)]
    · rw [show K + (d + 1) = (K + d) + 1 by omega, ms_step n j i (K + d) x7 x11 q c x y s u v out hn1 hj hv (by omega) (by omega) hxx hyy hx'.1 hx'.2 hy'.1 hy'.2 hs p0 p1 c0 c1]
      exact h7 K
theorem ab_step (n j i K : Nat) (x7 x11 q c x y : Int) (u v out : List Int) (hn1 : n ≤ 1000) (hj : j ≤ 2000) (hv : v.length = n) (hi : i < n) (hl : i + j < u.length) (hx : rd u ((i + j : Nat) : Int) = x) (hy : rd v (i : Int) = y) (x0 : 0 ≤ x) (x1 : x < 4294967296) (y0 : 0 ≤ y) (y1 : y < 4294967296) (c0 : 0 ≤ c) (c1 : c ≤ 1) :
    impl_divideDigits.l4 (K + 1) n x7 u v out x11 j q c v (v.length : Int) i = impl_divideDigits.l4 K n x7 (u.set (i + j) ((c + (x + y)) % 4294967296)) v out x11 j q ((c + (x + y)) / 4294967296) v (v.length : Int) ((i + 1 : Nat) : Int) := by
  have g1 : (i : Int) < (v.length : Int) := by omega
  have g2 : (0 : Int) ≤ (i : Int) := by omega
  have g3 : (0 : Int) ≤ ((i + j : Nat) : Int) := by omega
  have g4 : ((i + j : Nat) : Int) < (u.length : Int) := by omega
  have w1 : IntKind.u64.wrap x = x := u64_small x0 (by omega)
  have w2 : IntKind.u64.wrap y = y := u64_small y0 (by omega)
  have w3 : IntKind.u64.wrap (x + y) = x + y := u64_small (by omega) (by omega)
  have w4 : IntKind.u64.wrap (c + (x + y)) = c + (x + y) := u64_small (by omega) (by omega)
  conv => lhs; unfold impl_divideDigits.l4
  rw [if_pos g1, if_pos g2, if_pos g1, wr_add (by omega), wr_succ (by omega), if_pos g3, if_pos g4, hx, hy, w1, w2, w3, w4, Int.toNat_natCast]
theorem ab_loop (n j : Nat) (x7 x11 q : Int) (v out : List Int) (hvd : Digs v) (hn1 : n ≤ 1000) (hj : j ≤ 2000) (hv : v.length = n) : ∀ (d i : Nat) (u : List Int) (c : Int), i + d = n → Digs u → j + n < u.length → 0 ≤ c → c ≤ 1 →
    ∃ u' c', Digs u' ∧ u'.length = u.length ∧ 0 ≤ c' ∧ c' ≤ 1 ∧ val u' + 4294967296 ^ (n + j) * c' = val u + 4294967296 ^ j * (val v - val (v.take i)) + 4294967296 ^ (i + j) * c ∧ (∀ p : Nat, j + n ≤ p → rd u' (p : Int) = rd u (p : Int)) ∧
      ∀ K, impl_divideDigits.l4 (K + d) n x7 u v out x11 j q c v (v.length : Int) i = impl_divideDigits.l4 K n x7 u' v out x11 j q c' v (v.length : Int) (n : Int) := by
  intro d
  induction d with
  | zero =>
    intro i u c hi hu hl c0 c1
    have e : i = n := by omega
    subst e
    refine ⟨u, c, hu, rfl, c0, c1, ?_, fun p _ => rfl, fun K => rfl⟩
    rw [List.take_of_length_le (by omega), Int.sub_self, Int.mul_zero, Int.add_zero]
  | succ d ih =>
    intro i u c hi hu hl c0 c1
    have hy' := rd_digs hvd (i : Int)
    have hx' := rd_digs hu ((i + j : Nat) : Int)
    obtain ⟨y, hyy⟩ : ∃ y, rd v (i : Int) = y := ⟨_, rfl⟩
    obtain ⟨x, hxx⟩ : ∃ x, rd u ((i + j : Nat) : Int) = x := ⟨_, rfl⟩
    rw [hyy] at hy'; rw [hxx] at hx'
    obtain ⟨u', c', h1, h2, h3, h4, h5, h6, h7⟩ := ih (i + 1) (u.set (i + j) ((c + (x + y)) % 4294967296)) ((c + (x + y)) / 4294967296) (by omega) (digs_set hu _ (by omega) (by omega)) (by simpa using hl) (by omega) (by omega)
    refine ⟨u', c', h1, by simpa using h2, h3, h4, ?_, fun p hp => ?_, fun K => ?_⟩
    · rw [val_take_succ v i (by omega), hyy, val_set u (i + j) _ (by omega), hxx] at h5
      have e1 : (4294967296 : Int) ^ (i + 1 + j) = 4294967296 ^ (i + j) * 4294967296 := by rw [← Int.pow_succ]; congr 1; omega
      have e2 : (4294967296 : Int) ^ (i + j) = 4294967296 ^ i * 4294967296 ^ j := Int.pow_add ..
      have e3 : ((c + (x + y)) % 4294967296 - x) + 4294967296 * ((c + (x + y)) / 4294967296) = c + y := by omega
      rw [e1] at h5
      have e4 : (4294967296 : Int) ^ (i + j) * ((c + (x + y)) % 4294967296 - x) + 4294967296 ^ (i + j) * 4294967296 * ((c + (x + y)) / 4294967296) = 4294967296 ^ (i + j) * (c + y) := by
        rw [← e3, Int.mul_assoc, ← Int.mul_add]
      have e5 : (4294967296 : Int) ^ j * (val v - (val (v.take i) + 4294967296 ^ i * y)) = 4294967296 ^ j * (val v - val (v.take i)) - 4294967296 ^ (i + j) * y := by rw [e2]; grind
      have e6 : (4294967296 : Int) ^ (i + j) * (c + y) = 4294967296 ^ (i + j) * c + 4294967296 ^ (i + j) * y := Int.mul_add ..
      rw [e5] at h5
      omega
    · rw [h6 p hp, rd_set, if_neg (by omega)]
    · rw [show K + (d + 1) = (K + d) + 1 by omega, ab_step n j i (K + d) x7 x11 q c x y u v out hn1 hj hv (by omega) (by omega) hxx hyy hx'.1 hx'.2 hy'.1 hy'.2 c0 c1]
      exact h7 K
theorem ms_end (n j K : Nat) (x7 x11 q c t : Int) (u v out : List Int) (hn1 : n ≤ 1000) (hj : j ≤ 2000) (hv : v.length = n) (hl : j + n < u.length) (hjo : j < out.length) (ht : rd u ((j + n : Nat) : Int) = t) (t0 : 0 ≤ t) (t1 : t < 4294967296) (c0 : 0 ≤ c) (c1 : c < 4294967296) (q0 : 0 ≤ q) (q1 : q < 4294967296) :
    impl_divideDigits.l3 (K + 1) n x7 u v out x11 j q c v (v.length : Int) (n : Int) = if t < c then impl_divideDigits.l4 K n x7 (u.set (j + n) ((t - c) % 4294967296)) v out x11 j (IntKind.u64.wrap (q - 1)) 0 v (v.length : Int) ((0 : Nat) : Int) else impl_divideDigits.l1 K n x7 (u.set (j + n) ((t - c) % 4294967296)) v (out.set j q) x11 ((j : Int) - 1) := by
  have g1 : ¬ (n : Int) < (v.length : Int) := by omega
  have g2 : (0 : Int) ≤ ((j + n : Nat) : Int) := by omega
  have g3 : ((j + n : Nat) : Int) < (u.length : Int) := by omega
  have g4 : (0 : Int) ≤ (j : Int) := by omega
  have g5 : (j : Int) < (out.length : Int) := by omega
  have t2 : c % 4294967296 = c := by omega
  have t3 : q % 4294967296 = q := by omega
  have w1 : IntKind.u64.wrap t = t := u64_small t0 (by omega)
  have w2 : wrap64 ((j : Int) - 1) = (j : Int) - 1 := w64 (by omega) (by omega)
  conv => lhs; unfold impl_divideDigits.l3
  rw [if_neg g1, wr_add (by omega), if_pos g2, if_pos g3, Option.bind_some, if_pos g4, if_pos g5, ht, t2, t3, w1, w2, Int.toNat_natCast, Int.toNat_natCast]
  rfl
theorem ab_end (n j K : Nat) (x7 x11 q c t : Int) (u v out : List Int) (hn1 : n ≤ 1000) (hj : j ≤ 2000) (hv : v.length = n) (hl : j + n < u.length) (hjo : j < out.length) (ht : rd u ((j + n : Nat) : Int) = t) (c0 : 0 ≤ c) (c1 : c ≤ 1) (q0 : 0 ≤ q) (q1 : q < 4294967296) :
    impl_divideDigits.l4 (K + 1) n x7 u v out x11 j q c v (v.length : Int) (n : Int) = impl_divideDigits.l1 K n x7 (u.set (j + n) ((t + c) % 4294967296)) v (out.set j q) x11 ((j : Int) - 1) := by
  have g1 : ¬ (n : Int) < (v.length : Int) := by omega
  have g2 : (0 : Int) ≤ ((j + n : Nat) : Int) := by omega
  have g3 : ((j + n : Nat) : Int) < (u.length : Int) := by omega
  have g4 : (0 : Int) ≤ (j : Int) := by omega
  have g5 : (j : Int) < (out.length : Int) := by omega
  have t2 : c % 4294967296 = c := by omega
  have t3 : q % 4294967296 = q := by omega
  have w2 : wrap64 ((j : Int) - 1) = (j : Int) - 1 := w64 (by omega) (by omega)
  conv => lhs; unfold impl_divideDigits.l4
  rw [if_neg g1, wr_add (by omega), if_pos g2, if_pos g3, if_pos g4, if_pos g5, ht, t2, t3, w2, Int.toNat_natCast, Int.toNat_natCast]
end Go.Proofs.YtdgohcdemnmieaaDoor.A

/- What divideDigits computes: the quotient and the rest. Conditions: at most 900 digits each, at least as many above as below. -/
namespace Go.Proofs.YtdgohcdemnmieaaDoor.A
set_option linter.unusedVariables false
set_option linter.unusedSimpArgs false
open Go.RowKit Go.Proofs.YtdgohcdemnmieaaDoorW.PrintWords Go.Proofs.YtdgohcdemnmieaaDoorW.PrintLast Go.Proofs.YtdgohcdemnmieaaDoorW.PrintMore
theorem shr_eq (a f e x : Int) (he : e * f = 4294967296) (e1 : 1 ≤ e) (a0 : 0 ≤ a) (x0 : 0 ≤ x) (x1 : x < 4294967296) : e * (((a * 4294967296 + x) / e) % 4294967296) = x - x % e + 4294967296 * (a % e) := by
  have h1 : a * 4294967296 + x = x + e * (a * f) := by rw [← he]; grind
  have h2 : (a * 4294967296 + x) / e = x / e + a * f := by rw [h1, Int.add_mul_ediv_left _ _ (by omega)]
  have h3 : e * (a / e) + a % e = a := Int.mul_ediv_add_emod a e
  have h4 : e * (x / e) + x % e = x := Int.mul_ediv_add_emod x e
  have h5 : 0 ≤ a % e := Int.emod_nonneg _ (by omega)
  have h6 : a % e < e := Int.emod_lt_of_pos _ (by omega)
  have h7 : 0 ≤ x % e := Int.emod_nonneg _ (by omega)
  have h8 : 0 ≤ x / e := Int.ediv_nonneg x0 (by omega)
  obtain ⟨k, hk⟩ : ∃ k, a / e = k := ⟨_, rfl⟩
  obtain ⟨r, hr⟩ : ∃ r, a % e = r := ⟨_, rfl⟩
  obtain ⟨y, hy⟩ : ∃ y, x / e = y := ⟨_, rfl⟩
  obtain ⟨z, hz⟩ : ∃ z, x % e = z := ⟨_, rfl⟩
  rw [hk, hr] at h3; rw [hy, hz] at h4; rw [hr] at h5 h6; rw [hz] at h7; rw [hy] at h8
  rw [h2, hr, hy, hz]
  have f0 : 0 < f := by
    rcases Int.lt_or_le 0 f with h | h
    · exact h
    · have := Int.mul_le_mul_of_nonneg_left h (show 0 ≤ e by omega)
      omega
  have g1 : y < f := by
    rcases Int.lt_or_le y f with h | h
    · exact h
    · have := Int.mul_le_mul_of_nonneg_left h (show 0 ≤ e by omega)
      omega
  have g2 : a * f = k * 4294967296 + r * f := by rw [← he, ← h3]; grind
  have g3 : r * f ≤ (e - 1) * f := Int.mul_le_mul_of_nonneg_right (by omega) (by omega)
  have g4 : (e - 1) * f = 4294967296 - f := by rw [← he]; grind
  have g5 : 0 ≤ r * f := Int.mul_nonneg h5 (by omega)
  have g6 : (y + a * f) % 4294967296 = y + r * f := by rw [g2]; omega
  rw [g6, Int.mul_add]
  have g7 : e * (r * f) = 4294967296 * r := by rw [← he]; grind
  omega
theorem sh_step (n t i K : Nat) (a x e : Int) (r out : List Int) (hn : n ≤ 1000) (ht : t ≤ 31) (he : (2 : Int) ^ t = e) (hr : r.length = n) (hi : i < n) (ha : rd r ((i + 1 : Nat) : Int) = a) (hx : rd r (i : Int) = x) (a0 : 0 ≤ a) (a1 : a < 4294967296) (x0 : 0 ≤ x) (x1 : x < 4294967296) :
    impl_divideDigits.l5 (K + 1) n t out r (n : Int) i = impl_divideDigits.l5 K n t out (r.set i (((a * 4294967296 + x) / e) % 4294967296)) (n : Int) ((i + 1 : Nat) : Int) := by
  have g1 : (i : Int) < (n : Int) := by omega
  have g2 : (0 : Int) ≤ (i : Int) := by omega
  have g3 : (i : Int) < (r.length : Int) := by omega
  have g4 : (0 : Int) ≤ (t : Int) := by omega
  have g5 : (0 : Int) ≤ ((i + 1 : Nat) : Int) := by omega
  have w1 : IntKind.u64.wrap x = x := u64_small x0 (by omega)
  have w2 : IntKind.u64.wrap a = a := u64_small a0 (by omega)
  have w3 : IntKind.u64.wrap (a * 4294967296) = a * 4294967296 := u64_small (by omega) (by omega)
  have w4 : bits .or .u64 (a * 4294967296) x = a * 4294967296 + x := or32 a x a0 a1 x0 x1
  have w5 : ∀ y : Int, shr .u64 y (t : Int) = y / e := fun y => by unfold shr; rw [Int.toNat_natCast, Nat.min_eq_left (by show t ≤ 64; omega), he]
  conv => lhs; unfold impl_divideDigits.l5
  rw [if_pos g1, wr_succ (by omega), hx, w1]
  by_cases h : ((i + 1 : Nat) : Int) < (n : Int)
  · have g6 : ((i + 1 : Nat) : Int) < (r.length : Int) := by omega
    rw [if_pos h, if_pos g5, if_pos g6, if_pos g2, if_pos g3, if_pos g4, ha, w2, w3, w4, w5, Int.toNat_natCast]
  · have a2 : a = 0 := by rw [← ha]; exact rd_out (by omega)
    subst a2
    rw [Int.zero_mul, Int.zero_add] at w4
    rw [if_neg h, if_pos g2, if_pos g3, if_pos g4, w4, w5, Int.toNat_natCast, Int.zero_mul, Int.zero_add]
theorem sh_loop (n t : Nat) (e f : Int) (S out : List Int) (hS : Digs S) (hn : n ≤ 1000) (ht : t ≤ 31) (he : (2 : Int) ^ t = e) (hf : e * f = 4294967296) (hl : S.length = n) : ∀ (d i : Nat) (r : List Int), i + d = n → r.length = n → Digs r → (∀ p : Nat, i ≤ p → rd r (p : Int) = rd S (p : Int)) → e * val (r.take i) = val (S.take i) - rd S ((0 : Nat) : Int) % e + 4294967296 ^ i * (rd S (i : Int) % e) →
    ∃ r', (∀ K, impl_divideDigits.l5 (K + (d + 1)) n t out r (n : Int) i = some (out, r')) ∧ Digs r' ∧ e * val r' = val S - rd S ((0 : Nat) : Int) % e := by
  intro d
  induction d with
  | zero =>
    intro i r hi hr hd hp hv
    have e0 : i = n := by omega
    subst e0
    have g : ¬ (i : Int) < (i : Int) := by omega
    refine ⟨r, fun K => ?_, hd, ?_⟩
    · conv => lhs; unfold impl_divideDigits.l5
      rw [if_neg g]
    · have hz : rd S (i : Int) = 0 := rd_out (by omega)
      rw [List.take_of_length_le (by omega), List.take_of_length_le (by omega), hz, Int.zero_emod, Int.mul_zero, Int.add_zero] at hv
      exact hv
  | succ d ih =>
    intro i r hi hr hd hp hv
    have e1 : 1 ≤ e := by rw [← he]; exact two_pos t
    have hx' := rd_digs hS (i : Int)
    have ha' := rd_digs hS ((i + 1 : Nat) : Int)
    obtain ⟨x, hxx⟩ : ∃ x, rd S (i : Int) = x := ⟨_, rfl⟩
    obtain ⟨a, haa⟩ : ∃ a, rd S ((i + 1 : Nat) : Int) = a := ⟨_, rfl⟩
    rw [hxx] at hx'; rw [haa] at ha'
    have hz := shr_eq a f e x hf e1 ha'.1 hx'.1 hx'.2
    obtain ⟨z, hzz⟩ : ∃ z, ((a * 4294967296 + x) / e) % 4294967296 = z := ⟨_, rfl⟩
    have z0 : 0 ≤ z ∧ z < 4294967296 := by rw [← hzz]; omega
    obtain ⟨r', h1, h2, h3⟩ := ih (i + 1) (r.set i z) (by omega) (by simpa using hr) (digs_set hd _ z0.1 z0.2) (fun p hp' => by rw [rd_set, if_neg (by omega), hp p (by omega)]) (by
      rw [take_set_next _ _ _ (by omega), val_take_next, haa, hxx, Int.mul_add, hv, hxx]
      rw [hzz] at hz
      have g1 : e * (4294967296 ^ i * z) = 4294967296 ^ i * (x - x % e + 4294967296 * (a % e)) := by rw [← hz]; grind
      rw [g1, Int.pow_succ]; grind)
    refine ⟨r', fun K => ?_, h2, h3⟩
    rw [show K + (d + 1 + 1) = K + (d + 1) + 1 by omega, sh_step n t i (K + (d + 1)) a x e r out hn ht he hr (by omega) (by rw [hp _ (by omega), haa]) (by rw [hp _ (by omega), hxx]) ha'.1 ha'.2 hx'.1 hx'.2, hzz]
    exact h1 K
theorem val_zero_all : ∀ (l : List Int), Digs l → val l = 0 → ∀ x ∈ l, x = 0
  | [], _, _ => by simp
  | a :: l, h, hv => by
    have h1 := h a (by simp)
    have h2 : Digs l := fun y hy => h y (by simp [hy])
    have h3 := val_nonneg l h2
    simp only [val] at hv
    intro x hx
    rcases List.mem_cons.1 hx with rfl | hx
    · omega
    · exact val_zero_all l h2 (by omega) x hx
theorem val_split (l : List Int) (p : Nat) (hp : p ≤ l.length) : val l = val (l.take p) + 4294967296 ^ p * val (l.drop p) := by
  have h := val_append (l.take p) (l.drop p)
  rw [List.take_append_drop, List.length_take, Nat.min_eq_left hp] at h
  exact h
theorem rd_zero_of_lt {l : List Int} (h : Digs l) {p : Nat} (hv : val l < 4294967296 ^ p) (k : Nat) (hk : p ≤ k) : rd l (k : Int) = 0 := by
  rcases Nat.lt_or_ge k l.length with h1 | h1
  · have hd : Digs (l.drop p) := fun x hx => h x (List.mem_of_mem_drop hx)
    have e := val_split l p (by omega)
    have a1 := val_nonneg _ (digs_take h p)
    have a2 := val_nonneg _ hd
    have a3 : val (l.drop p) = 0 := by
      rcases Int.lt_or_le 0 (val (l.drop p)) with h2 | h2
      · have := Int.mul_le_mul_of_nonneg_left (show 1 ≤ val (l.drop p) by omega) (Int.le_of_lt (pw_pos p))
        omega
      · omega
    rw [rd_mem h1]
    refine val_zero_all _ hd a3 _ ?_
    rw [List.mem_iff_getElem]
    exact ⟨k - p, by simp; omega, by rw [List.getElem_drop]; congr 1; omega⟩
  · exact rd_out h1
theorem take_zero_above {l : List Int} {p : Nat} (hz : ∀ k : Nat, p ≤ k → rd l (k : Int) = 0) : val (l.take p) = val l := by
  have h : ∀ d : Nat, val (l.take (p + d)) = val (l.take p) := by
    intro d
    induction d with
    | zero => rfl
    | succ d ih => rw [← Nat.add_assoc, val_take_next, ih, hz (p + d) (by omega)]; omega
  rw [← h l.length, List.take_of_length_le (by omega)]
theorem lt_of_zero_above {l : List Int} (h : Digs l) {p : Nat} (hz : ∀ k : Nat, p ≤ k → rd l (k : Int) = 0) : val l < 4294967296 ^ p := by
  rw [← take_zero_above hz]
  have a1 := val_lt (l.take p) (digs_take h p)
  have a2 := pw_mono (show (l.take p).length ≤ p by rw [List.length_take]; omega)
  omega
end Go.Proofs.YtdgohcdemnmieaaDoor.A

/- One digit of divideDigits, and all of it. Conditions: at most 900 digits each. -/
namespace Go.Proofs.YtdgohcdemnmieaaDoor.A
set_option linter.unusedVariables false
set_option linter.unusedSimpArgs false
open Go.RowKit Go.Proofs.YtdgohcdemnmieaaDoorW.PrintWords Go.Proofs.YtdgohcdemnmieaaDoorW.PrintLast Go.Proofs.YtdgohcdemnmieaaDoorW.PrintMore
theorem wr_at1 {j n : Nat} (hn : 1 ≤ n) (hn1 : n ≤ 1000) (hj : j ≤ 2000) : wrap64 (((j + n : Nat) : Int) - 1) = ((j + (n - 1) : Nat) : Int) := by rw [w64 (by omega) (by omega)]; omega
theorem wr_at2 {j n : Nat} (hn : 2 ≤ n) (hn1 : n ≤ 1000) (hj : j ≤ 2000) : wrap64 (((j + n : Nat) : Int) - 2) = ((j + (n - 2) : Nat) : Int) := by rw [w64 (by omega) (by omega)]; omega
theorem l1_step (n j K : Nat) (x7 x11 d0 d1 v1 th : Int) (u v out : List Int) (hn : 1 ≤ n) (hn1 : n ≤ 1000) (hj : j ≤ 2000) (hv : v.length = n) (hl : j + n < u.length) (h0 : rd u ((j + n : Nat) : Int) = d0) (h1 : rd u ((j + (n - 1) : Nat) : Int) = d1) (hv1 : rd v ((n - 1 : Nat) : Int) = v1) (hth : th = if 2 ≤ n then rd u ((j + (n - 2) : Nat) : Int) else 0)
    (d00 : 0 ≤ d0) (d01 : d0 < 4294967296) (d10 : 0 ≤ d1) (d11 : d1 < 4294967296) (v10 : 1 ≤ v1) (v11 : v1 < 4294967296) (t0 : 0 ≤ th) (t1 : th < 4294967296) :
    impl_divideDigits.l1 (K + 1) n x7 u v out x11 j = impl_divideDigits.j3 K n x7 u v out x11 j ((d0 * 4294967296 + d1) / v1) ((d0 * 4294967296 + d1) % v1) th := by
  have g0 : (j : Int) ≥ 0 := by omega
  have g1 : (0 : Int) ≤ ((j + n : Nat) : Int) := by omega
  have g2 : ((j + n : Nat) : Int) < (u.length : Int) := by omega
  have g3 : (0 : Int) ≤ ((j + (n - 1) : Nat) : Int) := by omega
  have g4 : ((j + (n - 1) : Nat) : Int) < (u.length : Int) := by omega
  have g5 : (0 : Int) ≤ ((n - 1 : Nat) : Int) := by omega
  have g6 : ((n - 1 : Nat) : Int) < (v.length : Int) := by omega
  have g7 : ¬ v1 = 0 := by omega
  have b0 : 0 ≤ d0 * 4294967296 + d1 := by omega
  have b1 : d0 * 4294967296 + d1 < 18446744073709551616 := by omega
  have b2 : (d0 * 4294967296 + d1) / v1 ≤ d0 * 4294967296 + d1 := Int.ediv_le_self _ b0
  have b3 : 0 ≤ (d0 * 4294967296 + d1) / v1 := Int.ediv_nonneg b0 (by omega)
  have b4 : (d0 * 4294967296 + d1) / v1 < 18446744073709551616 := Int.lt_of_le_of_lt b2 b1
  have w1 : IntKind.u64.wrap d0 = d0 := u64_small d00 (by omega)
  have w2 : IntKind.u64.wrap d1 = d1 := u64_small d10 (by omega)
  have w3 : IntKind.u64.wrap v1 = v1 := u64_small (by omega) (by omega)
  have w4 : IntKind.u64.wrap (d0 * 4294967296) = d0 * 4294967296 := u64_small (by omega) (by omega)
  have w5 : bits .or .u64 (d0 * 4294967296) d1 = d0 * 4294967296 + d1 := or32 d0 d1 d00 d01 d10 d11
  have w6 : IntKind.u64.wrap ((d0 * 4294967296 + d1) / v1) = (d0 * 4294967296 + d1) / v1 := u64_small b3 b4
  have w7 : Int.tdiv (d0 * 4294967296 + d1) v1 = (d0 * 4294967296 + d1) / v1 := Int.tdiv_eq_ediv_of_nonneg b0
  have w8 : Int.tmod (d0 * 4294967296 + d1) v1 = (d0 * 4294967296 + d1) % v1 := Int.tmod_eq_emod_of_nonneg b0
  conv => lhs; unfold impl_divideDigits.l1
  rw [if_pos g0, wr_add (by omega), if_pos g1, if_pos g2, wr_at1 hn hn1 hj, if_pos g3, if_pos g4, wr_pred hn (by omega), if_pos g5, if_pos g6, hv1, h0, h1, w1, w2, w3, if_neg g7, w4, w5, w7, w8, w6]
  by_cases c : 2 ≤ n
  · have c' : (n : Int) > 1 := by omega
    have g8 : (0 : Int) ≤ ((j + (n - 2) : Nat) : Int) := by omega
    have g9 : ((j + (n - 2) : Nat) : Int) < (u.length : Int) := by omega
    rw [if_pos c] at hth
    have w9 : IntKind.u64.wrap th = th := u64_small t0 (by omega)
    rw [if_pos c', wr_at2 c hn1 hj, if_pos g8, if_pos g9, ← hth, w9]
  · have c' : ¬ (n : Int) > 1 := by omega
    rw [if_neg c] at hth
    rw [if_neg c', hth]
theorem top_two {l : List Int} (hl : Digs l) (p : Nat) {d0 d1 : Int} (h0 : rd l ((p + 1 : Nat) : Int) = d0) (h1 : rd l (p : Int) = d1) (hz : ∀ k : Nat, p + 2 ≤ k → rd l (k : Int) = 0) : (d0 * 4294967296 + d1) * 4294967296 ^ p ≤ val l ∧ val l < (d0 * 4294967296 + d1 + 1) * 4294967296 ^ p := by
  have e := take_zero_above hz
  rw [show p + 2 = p + 1 + 1 by omega, val_take_next, val_take_next, h0, h1] at e
  have a1 := val_nonneg _ (digs_take hl p)
  have a2 := val_lt (l.take p) (digs_take hl p)
  have a3 := pw_mono (show (l.take p).length ≤ p by rw [List.length_take]; omega)
  have g : (4294967296 : Int) ^ (p + 1) * d0 = (d0 * 4294967296) * 4294967296 ^ p := by rw [Int.pow_succ]; grind
  have g2 : (d0 * 4294967296 + d1) * 4294967296 ^ p = d0 * 4294967296 * 4294967296 ^ p + 4294967296 ^ p * d1 := by grind
  have g3 : (d0 * 4294967296 + d1 + 1) * 4294967296 ^ p = (d0 * 4294967296 + d1) * 4294967296 ^ p + 4294967296 ^ p := by grind
  omega
theorem top_three {l : List Int} (hl : Digs l) (p : Nat) {d0 d1 d2 : Int} (h0 : rd l ((p + 2 : Nat) : Int) = d0) (h1 : rd l ((p + 1 : Nat) : Int) = d1) (h2 : rd l (p : Int) = d2) (hz : ∀ k : Nat, p + 3 ≤ k → rd l (k : Int) = 0) : ((d0 * 4294967296 + d1) * 4294967296 + d2) * 4294967296 ^ p ≤ val l ∧ val l < ((d0 * 4294967296 + d1) * 4294967296 + d2 + 1) * 4294967296 ^ p := by
  have e := take_zero_above hz
  rw [show p + 3 = p + 1 + 1 + 1 by omega, val_take_next, val_take_next, val_take_next, h0, h1, h2] at e
  have a1 := val_nonneg _ (digs_take hl p)
  have a2 := val_lt (l.take p) (digs_take hl p)
  have a3 := pw_mono (show (l.take p).length ≤ p by rw [List.length_take]; omega)
  have g : (4294967296 : Int) ^ (p + 1 + 1) * d0 = (d0 * 4294967296 * 4294967296) * 4294967296 ^ p := by rw [Int.pow_succ, Int.pow_succ]; grind
  have g' : (4294967296 : Int) ^ (p + 2) * d0 = (d0 * 4294967296 * 4294967296) * 4294967296 ^ p := g
  have g1 : (4294967296 : Int) ^ (p + 1) * d1 = (d1 * 4294967296) * 4294967296 ^ p := by rw [Int.pow_succ]; grind
  have g2 : ((d0 * 4294967296 + d1) * 4294967296 + d2) * 4294967296 ^ p = d0 * 4294967296 * 4294967296 * 4294967296 ^ p + d1 * 4294967296 * 4294967296 ^ p + 4294967296 ^ p * d2 := by grind
  have g3 : ((d0 * 4294967296 + d1) * 4294967296 + d2 + 1) * 4294967296 ^ p = ((d0 * 4294967296 + d1) * 4294967296 + d2) * 4294967296 ^ p + 4294967296 ^ p := by grind
  omega
/-- The estimate's bounds (Knuth): the estimate is never less than the digit, and in the end at most one more. -/
theorem est_bounds (n j : Nat) (u v : List Int) (hu : Digs u) (hvd : Digs v) (hn : 1 ≤ n) (hv : v.length = n) (d0 d1 v1 th x11 Q : Int) (h0 : rd u ((j + n : Nat) : Int) = d0) (h1 : rd u ((j + (n - 1) : Nat) : Int) = d1) (hv1 : rd v ((n - 1 : Nat) : Int) = v1) (v10 : 2147483648 ≤ v1) (hth : th = if 2 ≤ n then rd u ((j + (n - 2) : Nat) : Int) else 0) (hsec : x11 = if 2 ≤ n then rd v ((n - 2 : Nat) : Int) else 0)
    (hz : ∀ k : Nat, j + n + 1 ≤ k → rd u (k : Int) = 0) (hA : val u < 4294967296 * (val v * 4294967296 ^ j)) (Q0 : 0 ≤ Q) (hQ1 : Q * (val v * 4294967296 ^ j) ≤ val u) (hQ2 : val u < (Q + 1) * (val v * 4294967296 ^ j)) :
    (d0 * 4294967296 + d1 < (v1 + 1) * 4294967296) ∧ Q * v1 ≤ d0 * 4294967296 + d1 ∧
    (∀ q rest, 0 ≤ q → 0 ≤ rest → q * v1 + rest = d0 * 4294967296 + d1 → rest * 4294967296 + th < q * x11 → Q < q) ∧ (∀ q rest, 0 ≤ q → q < 4294967296 → 0 ≤ rest → q * v1 + rest = d0 * 4294967296 + d1 → q * x11 ≤ rest * 4294967296 + th → q ≤ Q + 1) ∧ (∀ q rest, 0 ≤ q → q < 4294967296 → q * v1 + rest = d0 * 4294967296 + d1 → 4294967296 ≤ rest → q ≤ Q + 1) := by
  obtain ⟨m, rfl⟩ : ∃ m, n = m + 1 := ⟨n - 1, by omega⟩
  rw [show j + (m + 1) = j + m + 1 by omega] at h0
  rw [show m + 1 - 1 = m by omega] at h1 hv1
  have A1 := top_two hu (j + m) h0 h1 (fun k hk => hz k (by omega))
  have hvz : ∀ k : Nat, m + 1 ≤ k → rd v (k : Int) = 0 := fun k hk => rd_out (by omega)
  have V1 : v1 * 4294967296 ^ m ≤ val v ∧ val v < (v1 + 1) * 4294967296 ^ m := by
    have e := take_zero_above hvz
    rw [val_take_next, hv1] at e
    have a1 := val_nonneg _ (digs_take hvd m)
    have a2 := val_lt (v.take m) (digs_take hvd m)
    have a3 := pw_mono (show (v.take m).length ≤ m by rw [List.length_take]; omega)
    have g1 : (4294967296 : Int) ^ m * v1 = v1 * 4294967296 ^ m := Int.mul_comm ..
    have g2 : (v1 + 1) * 4294967296 ^ m = v1 * 4294967296 ^ m + 4294967296 ^ m := by grind
    omega
  obtain ⟨two, htw⟩ : ∃ two, d0 * 4294967296 + d1 = two := ⟨_, rfl⟩
  rw [htw] at A1 ⊢
  obtain ⟨A, hAe⟩ : ∃ A, val u = A := ⟨_, rfl⟩
  obtain ⟨D, hDe⟩ : ∃ D, val v * 4294967296 ^ j = D := ⟨_, rfl⟩
  rw [hAe] at A1 hA hQ1 hQ2
  rw [hDe] at hA hQ1 hQ2
  have pj := pw_pos j
  have eP : (4294967296 : Int) ^ (j + m) = 4294967296 ^ m * 4294967296 ^ j := by rw [Int.pow_add, Int.mul_comm]
  obtain ⟨P, hPe⟩ : ∃ P, (4294967296 : Int) ^ (j + m) = P := ⟨_, rfl⟩
  have hP : 0 < P := by rw [← hPe]; exact pw_pos _
  rw [hPe] at A1
  have D1 : v1 * P ≤ D := by
    have := Int.mul_le_mul_of_nonneg_right V1.1 (Int.le_of_lt pj)
    rw [← hPe, eP, ← hDe, ← Int.mul_assoc]; exact this
  have D2 : D ≤ (v1 + 1) * P := by
    have := Int.mul_le_mul_of_nonneg_right (Int.le_of_lt V1.2) (Int.le_of_lt pj)
    rw [← hPe, eP, ← hDe, ← Int.mul_assoc]; exact this
  have Dpos : 0 < D := by
    have : 0 < v1 * P := Int.mul_pos (by omega) hP
    omega
  -- a product at most the whole shows a digit
  have fin : ∀ q : Int, (q - 1) * D ≤ A → q ≤ Q + 1 := fun q h => by
    have h2 : (q - 1) * D < (Q + 1) * D := by omega
    have := Int.lt_of_mul_lt_mul_right h2 (Int.le_of_lt Dpos)
    omega
  refine ⟨?_, kn_le hP A1.2 D1 hQ1 Q0, ?_, ?_, ?_⟩
  · have h2 : two * P < ((v1 + 1) * 4294967296) * P := by
      have g : ((v1 + 1) * 4294967296) * P = 4294967296 * ((v1 + 1) * P) := by grind
      omega
    exact Int.lt_of_mul_lt_mul_right h2 (Int.le_of_lt hP)
  · intro q rest q0 r0 he hgo
    by_cases c : 2 ≤ m + 1
    · obtain ⟨k, rfl⟩ : ∃ k, m = k + 1 := ⟨m - 1, by omega⟩
      rw [if_pos c, show k + 1 + 1 - 2 = k by omega] at hth hsec
      rw [← Nat.add_assoc] at h1
      have A3 := top_three hu (j + k) (d0 := d0) (d1 := d1) (d2 := th) (by rw [show j + k + 2 = j + (k + 1) + 1 by omega]; exact h0) h1 hth.symm (fun p hp => hz p (by omega))
      have V3 := top_two hvd k hv1 hsec.symm (fun p hp => rd_out (by omega))
      rw [htw, hAe] at A3
      have pk := pw_pos (j + k)
      have eK : (4294967296 : Int) ^ (j + k) = 4294967296 ^ k * 4294967296 ^ j := by rw [Int.pow_add, Int.mul_comm]
      have W1 : (v1 * 4294967296 + x11) * 4294967296 ^ (j + k) ≤ D := by
        have := Int.mul_le_mul_of_nonneg_right V3.1 (Int.le_of_lt pj)
        rw [eK, ← hDe, ← Int.mul_assoc]; exact this
      have h3 := kn_le pk A3.2 W1 hQ1 Q0
      rcases Int.lt_or_le Q q with h | h
      · exact h
      · have x0 : 0 ≤ x11 := by rw [hsec]; exact (rd_digs hvd _).1
        have h4 := Int.mul_le_mul_of_nonneg_right h (show 0 ≤ v1 * 4294967296 + x11 by omega)
        have h5 : q * (v1 * 4294967296 + x11) = (q * v1) * 4294967296 + q * x11 := by grind
        omega
    · rw [if_neg c] at hth hsec
      subst hth; subst hsec
      rw [Int.mul_zero] at hgo
      omega
  · intro q rest q0 qB r0 he hgo
    by_cases c : 2 ≤ m + 1
    · obtain ⟨k, rfl⟩ : ∃ k, m = k + 1 := ⟨m - 1, by omega⟩
      rw [if_pos c, show k + 1 + 1 - 2 = k by omega] at hth hsec
      rw [← Nat.add_assoc] at h1
      have A3 := top_three hu (j + k) (d0 := d0) (d1 := d1) (d2 := th) (by rw [show j + k + 2 = j + (k + 1) + 1 by omega]; exact h0) h1 hth.symm (fun p hp => hz p (by omega))
      have V3 := top_two hvd k hv1 hsec.symm (fun p hp => rd_out (by omega))
      rw [htw, hAe] at A3
      have pk := pw_pos (j + k)
      have eK : (4294967296 : Int) ^ (j + k) = 4294967296 ^ k * 4294967296 ^ j := by rw [Int.pow_add, Int.mul_comm]
      have W2 : D ≤ (v1 * 4294967296 + x11 + 1) * 4294967296 ^ (j + k) := by
        have := Int.mul_le_mul_of_nonneg_right (Int.le_of_lt V3.2) (Int.le_of_lt pj)
        rw [eK, ← hDe, ← Int.mul_assoc]; exact this
      have x0 : 0 ≤ x11 := by rw [hsec]; exact (rd_digs hvd _).1
      have h5 : q * (v1 * 4294967296 + x11) = (q * v1) * 4294967296 + q * x11 := by grind
      rcases Int.lt_or_le 0 q with h | h
      · exact fin q (kn_up pk (by omega) A3.1 W2 (by omega) (by omega))
      · omega
    · have m0 : m = 0 := by omega
      subst m0
      have eD : D = v1 * P := by
        have e := take_zero_above hvz
        rw [val_take_next, hv1] at e
        simp only [List.take_zero, val, Int.pow_zero, Int.one_mul, Int.zero_add] at e
        rw [← hDe, ← e, ← hPe, Nat.add_zero]
      have h6 : q * D ≤ A := by
        have h7 : q * D = (q * v1) * P := by rw [eD]; grind
        have h8 : (q * v1) * P ≤ two * P := Int.mul_le_mul_of_nonneg_right (by omega) (Int.le_of_lt hP)
        omega
      exact fin q (by rw [Int.sub_mul]; omega)
  · intro q rest q0 qB he hr
    have h6 : q * D ≤ A := by
      have h7 : q * D ≤ q * ((v1 + 1) * P) := Int.mul_le_mul_of_nonneg_left D2 q0
      have h8 : q * ((v1 + 1) * P) = (q * v1 + q) * P := by grind
      have h9 : (q * v1 + q) * P ≤ two * P := Int.mul_le_mul_of_nonneg_right (by omega) (Int.le_of_lt hP)
      omega
    exact fin q (by rw [Int.sub_mul]; omega)
end Go.Proofs.YtdgohcdemnmieaaDoor.A

/- All of divideDigits: the quotient and the rest. Conditions: at most 900 digits each. -/
namespace Go.Proofs.YtdgohcdemnmieaaDoor.A
set_option linter.unusedVariables false
set_option linter.unusedSimpArgs false
open Go.RowKit Go.Proofs.YtdgohcdemnmieaaDoorW.PrintWords Go.Proofs.YtdgohcdemnmieaaDoorW.PrintLast Go.Proofs.YtdgohcdemnmieaaDoorW.PrintMore
theorem div_digit (n t j : Nat) (x11 : Int) (u v out : List Int) (hu : Digs u) (hvd : Digs v) (hn : 1 ≤ n) (hn1 : n ≤ 1000) (hj : j ≤ 2000) (hv : v.length = n) (hl : j + n < u.length) (hjo : j < out.length) (v10 : 2147483648 ≤ rd v ((n - 1 : Nat) : Int)) (hsec : x11 = if 2 ≤ n then rd v ((n - 2 : Nat) : Int) else 0) (hA : val u < val v * 4294967296 ^ (j + 1)) :
    ∃ s u' Q, (∀ K, impl_divideDigits.l1 (K + s) n t u v out x11 (j : Int) = impl_divideDigits.l1 K n t u' v (out.set j Q) x11 ((j : Int) - 1)) ∧ Digs u' ∧ u'.length = u.length ∧ val u' = val u - Q * (val v * 4294967296 ^ j) ∧ 0 ≤ Q ∧ Q < 4294967296 ∧ val u' < val v * 4294967296 ^ j := by
  obtain ⟨d0, h0⟩ : ∃ d0, rd u ((j + n : Nat) : Int) = d0 := ⟨_, rfl⟩
  obtain ⟨d1, h1⟩ : ∃ d1, rd u ((j + (n - 1) : Nat) : Int) = d1 := ⟨_, rfl⟩
  obtain ⟨v1, hv1⟩ : ∃ v1, rd v ((n - 1 : Nat) : Int) = v1 := ⟨_, rfl⟩
  obtain ⟨th, hth⟩ : ∃ th, th = if 2 ≤ n then rd u ((j + (n - 2) : Nat) : Int) else 0 := ⟨_, rfl⟩
  have d0' : 0 ≤ d0 ∧ d0 < 4294967296 := by rw [← h0]; exact rd_digs hu _
  have d1' : 0 ≤ d1 ∧ d1 < 4294967296 := by rw [← h1]; exact rd_digs hu _
  have v1' : 0 ≤ v1 ∧ v1 < 4294967296 := by rw [← hv1]; exact rd_digs hvd _
  have th' : 0 ≤ th ∧ th < 4294967296 := by
    rw [hth]; split
    · exact rd_digs hu _
    · exact ⟨by omega, by omega⟩
  have x11' : 0 ≤ x11 ∧ x11 < 4294967296 := by
    rw [hsec]; split
    · exact rd_digs hvd _
    · exact ⟨by omega, by omega⟩
  rw [hv1] at v10
  have hA' : val u < 4294967296 * (val v * 4294967296 ^ j) := by rw [Int.pow_succ] at hA; have g : val v * (4294967296 ^ j * 4294967296) = 4294967296 * (val v * 4294967296 ^ j) := by grind
                                                                 omega
  have hz : ∀ k : Nat, j + n + 1 ≤ k → rd u (k : Int) = 0 := by
    have e := val_lt v hvd
    rw [hv] at e
    have h2 : val v * 4294967296 ^ (j + 1) ≤ 4294967296 ^ n * 4294967296 ^ (j + 1) := Int.mul_le_mul_of_nonneg_right (Int.le_of_lt e) (Int.le_of_lt (pw_pos _))
    rw [← Int.pow_add] at h2
    have h3 : val u < 4294967296 ^ (j + n + 1) := by rw [show j + n + 1 = n + (j + 1) by omega]; omega
    exact fun k hk => rd_zero_of_lt hu h3 k hk
  obtain ⟨D, hDe⟩ : ∃ D, val v * 4294967296 ^ j = D := ⟨_, rfl⟩
  have vnn := val_nonneg v hvd
  have Apos := val_nonneg u hu
  have Dnn : 0 ≤ D := by rw [← hDe]; exact Int.mul_nonneg vnn (Int.le_of_lt (pw_pos j))
  have Dpos : 0 < D := by rw [hDe] at hA'; omega
  obtain ⟨Q, hQe⟩ : ∃ Q, val u / D = Q := ⟨_, rfl⟩
  have hQ0 : 0 ≤ Q := by rw [← hQe]; exact Int.ediv_nonneg Apos Dnn
  have hQ1 : Q * D ≤ val u := by rw [← hQe]; exact Int.ediv_mul_le _ (by omega)
  have hQ2 : val u < (Q + 1) * D := by rw [← hQe]; exact Int.lt_ediv_add_one_mul_self _ Dpos
  have hQB : Q < 4294967296 := by
    have h2 : Q * D < 4294967296 * D := by rw [hDe] at hA'; omega
    exact Int.lt_of_mul_lt_mul_right h2 Dnn
  obtain ⟨e1, e2, H1, H2, H3⟩ := est_bounds n j u v hu hvd hn hv d0 d1 v1 th x11 Q h0 h1 hv1 v10 hth hsec hz hA' hQ0 (by rw [hDe]; exact hQ1) (by rw [hDe]; exact hQ2)
  obtain ⟨two, htw⟩ : ∃ two, d0 * 4294967296 + d1 = two := ⟨_, rfl⟩
  rw [htw] at e1 e2 H1 H2 H3
  have tw0 : 0 ≤ two := by omega
  have q0e : v1 * (two / v1) + two % v1 = two := Int.mul_ediv_add_emod two v1
  have r00 : 0 ≤ two % v1 := Int.emod_nonneg _ (by omega)
  have r01 : two % v1 < v1 := Int.emod_lt_of_pos _ (by omega)
  have qge : Q ≤ two / v1 := Int.le_ediv_of_mul_le (by omega) e2
  obtain ⟨q', a1, a2, a3, s, a4⟩ := adj_loop n t x11 j v1 th two Q u v out hn hn1 hv hv1 v10 v1'.2 x11'.1 x11'.2 th'.1 th'.2 hQ0 hQB e1 H1 H2 H3 (two / v1 - Q).toNat (two / v1) (two % v1) (by omega) r00 (by omega) (by rw [Int.mul_comm]; exact q0e)
  obtain ⟨u1, c, b1, b2, b3, b4, b5, b6, b7⟩ := ms_loop n j t x11 q' v out hvd hn1 hj hv (by omega) a3 n 0 u 0 (by omega) hu hl (by omega) (by omega)
  have hup : ∀ K, impl_divideDigits.l1 (K + (n + 1 + s + 2)) n t u v out x11 (j : Int) = impl_divideDigits.l3 K n t u1 v out x11 j q' c v (v.length : Int) (n : Int) := by
    intro K
    rw [show K + (n + 1 + s + 2) = (K + n + 1 + s) + 1 + 1 by omega, l1_step n j _ t x11 d0 d1 v1 th u v out hn hn1 hj hv hl h0 h1 hv1 hth d0'.1 d0'.2 d1'.1 d1'.2 (by omega) v1'.2 th'.1 th'.2, htw]
    conv => lhs; unfold impl_divideDigits.j3
    rw [a4 (K + n + 1)]
    conv => lhs; unfold impl_divideDigits.j5
    exact b7 K
  simp only [List.take_zero, val, Int.sub_zero, Int.mul_zero, Int.add_zero] at b5
  have b5' : val u1 + q' * D = val u + 4294967296 ^ (j + n) * c := by
    have g : q' * 4294967296 ^ j * val v = q' * D := by rw [← hDe]; grind
    rw [show j + n = n + j by omega]; omega
  have t1e : rd u1 ((j + n : Nat) : Int) = d0 := by rw [b6 _ (Nat.le_refl _), h0]
  have zz : ∀ x : Int, ∀ k : Nat, j + n + 1 ≤ k → rd (u1.set (j + n) x) (k : Int) = 0 := fun x k hk => by rw [rd_set, if_neg (by omega), b6 k (by omega), hz k hk]
  have hP := pw_pos (j + n)
  have hP1 := pw_succ (j + n)
  obtain ⟨P, hPe⟩ : ∃ P, (4294967296 : Int) ^ (j + n) = P := ⟨_, rfl⟩
  rw [hPe] at hP hP1 b5'
  have du2 : Digs (u1.set (j + n) ((d0 - c) % 4294967296)) := digs_set b1 _ (by omega) (by omega)
  have v2 : val (u1.set (j + n) ((d0 - c) % 4294967296)) = val u1 + P * ((d0 - c) % 4294967296 - d0) := by rw [val_set _ _ _ (by omega), t1e, hPe]
  by_cases hc : d0 < c
  · -- the estimate is one more than the digit: added back
    have v3 : val (u1.set (j + n) ((d0 - c) % 4294967296)) = val u - q' * D + 4294967296 * P := by
      rw [v2, show (d0 - c) % 4294967296 - d0 = 4294967296 - c by omega, Int.mul_sub, Int.mul_comm P 4294967296]
      omega
    have lt2 := lt_of_zero_above du2 (zz _)
    rw [hP1] at lt2
    have hq : q' = Q + 1 := by
      rcases (show q' = Q ∨ q' = Q + 1 by omega) with h | h
      · rw [h] at v3; omega
      · exact h
    subst hq
    obtain ⟨u3, c4, f1, f2, f3, f4, f5, f6, f7⟩ := ab_loop n j t x11 Q v (out) hvd hn1 hj hv n 0 (u1.set (j + n) ((d0 - c) % 4294967296)) 0 (by omega) du2 (by simp; omega) (by omega) (by omega)
    simp only [List.take_zero, val, Int.sub_zero, Int.mul_zero, Int.add_zero] at f5
    rw [show n + j = j + n by omega, hPe] at f5
    obtain ⟨t2, ht2⟩ : ∃ t2, rd u3 ((j + n : Nat) : Int) = t2 := ⟨_, rfl⟩
    have t2' : 0 ≤ t2 ∧ t2 < 4294967296 := by rw [← ht2]; exact rd_digs f1 _
    have f2' : u3.length = u.length := by rw [f2]; simp [b2]
    have du4 : Digs (u3.set (j + n) ((t2 + c4) % 4294967296)) := digs_set f1 _ (by omega) (by omega)
    have v4 : val (u3.set (j + n) ((t2 + c4) % 4294967296)) = val u3 + P * ((t2 + c4) % 4294967296 - t2) := by rw [val_set _ _ _ (by omega), ht2, hPe]
    have lt4 := lt_of_zero_above (p := j + n + 1) du4 (fun k hk => show rd (u3.set (j + n) ((t2 + c4) % 4294967296)) (k : Int) = 0 by rw [rd_set, if_neg (by omega), f6 k (by omega)]; exact zz _ k hk)
    rw [hP1] at lt4
    have eD : 4294967296 ^ j * val v = D := by rw [← hDe, Int.mul_comm]
    rw [eD] at f5
    have g6 : (Q + 1) * D = Q * D + D := by rw [Int.add_mul, Int.one_mul]
    have v5 : val (u3.set (j + n) ((t2 + c4) % 4294967296)) = val u - Q * D := by
      by_cases ho : t2 + c4 < 4294967296
      · rw [show (t2 + c4) % 4294967296 - t2 = c4 by omega] at v4
        omega
      · rw [show (t2 + c4) % 4294967296 - t2 = c4 - 4294967296 by omega, Int.mul_sub, Int.mul_comm P 4294967296] at v4
        omega
    have v6 : val (u3.set (j + n) ((t2 + c4) % 4294967296)) < D := by rw [v5]; rw [g6] at hQ2; clear v3 v2 v4 v5 b5 b5' f5 lt2 lt4; omega
    refine ⟨1 + n + 1 + (n + 1 + s + 2), u3.set (j + n) ((t2 + c4) % 4294967296), Q, fun K => ?_, du4, by simp [f2'], by rw [hDe]; exact v5, hQ0, hQB, by rw [hDe]; exact v6⟩
    have w : IntKind.u64.wrap (Q + 1 - 1) = Q := by rw [u64_small (by omega) (by omega)]; omega
    rw [← Nat.add_assoc, hup, show K + (1 + n + 1) = K + 1 + n + 1 by omega, ms_end n j _ t x11 (Q + 1) c d0 u1 v out hn1 hj hv (by omega) hjo t1e d0'.1 d0'.2 b3 b4 (by omega) a3, if_pos hc, w, f7 (K + 1), ab_end n j K t x11 Q c4 t2 u3 v out hn1 hj hv (by omega) hjo ht2 f3 f4 hQ0 hQB]
  · have v3 : val (u1.set (j + n) ((d0 - c) % 4294967296)) = val u - q' * D := by
      rw [v2, show (d0 - c) % 4294967296 - d0 = - c by omega, Int.mul_neg]
      omega
    have nn := val_nonneg _ du2
    have hq : q' = Q := by
      have h2 : q' * D < (Q + 1) * D := by omega
      have := Int.lt_of_mul_lt_mul_right h2 Dnn
      omega
    subst hq
    refine ⟨1 + (n + 1 + s + 2), u1.set (j + n) ((d0 - c) % 4294967296), q', fun K => ?_, du2, by simp [b2], by rw [hDe]; exact v3, hQ0, hQB, by rw [hDe, v3, show (q' + 1) * D = q' * D + D by rw [Int.add_mul, Int.one_mul]] at *; omega⟩
    rw [← Nat.add_assoc, hup, ms_end n j _ t x11 q' c d0 u1 v out hn1 hj hv (by omega) hjo t1e d0'.1 d0'.2 b3 b4 (by omega) a3, if_neg hc]
theorem div_main (n t m : Nat) (x11 e f : Int) (v : List Int) (hvd : Digs v) (hn : 1 ≤ n) (hn1 : n ≤ 1000) (hm : m ≤ 1000) (hnm : n ≤ m) (ht : t ≤ 31) (he : (2 : Int) ^ t = e) (hf : e * f = 4294967296) (hv : v.length = n) (v10 : 2147483648 ≤ rd v ((n - 1 : Nat) : Int)) (hsec : x11 = if 2 ≤ n then rd v ((n - 2 : Nat) : Int) else 0) :
    ∀ (j : Nat) (u out : List Int), j + n ≤ m + 1 → Digs u → u.length = m + 1 → Digs out → out.length = m - n + 1 → (∀ p : Nat, p < j → rd out (p : Int) = 0) → val u < val v * 4294967296 ^ j →
      ∃ s r1 r2 S r0, (∀ K, impl_divideDigits.l1 (K + s) n t u v out x11 ((j : Int) - 1) = some (r1, r2)) ∧ Digs r1 ∧ Digs r2 ∧ 0 ≤ S ∧ S < val v ∧ val u + val v * val out = S + val v * val r1 ∧ e * val r2 = S - r0 ∧ 0 ≤ r0 ∧ r0 < e := by
  intro j
  induction j with
  | zero =>
    intro u out hj hu hul ho hol hz hlt
    rw [Int.pow_zero, Int.mul_one] at hlt
    have hle := val_lt v hvd
    rw [hv] at hle
    have hzu : ∀ k : Nat, n ≤ k → rd u (k : Int) = 0 := fun k hk => rd_zero_of_lt hu (show val u < 4294967296 ^ n by omega) k hk
    have hS := take_zero_above hzu
    have e1 : 1 ≤ e := by rw [← he]; exact two_pos t
    have htl : (u.take n).length = n := by rw [List.length_take]; omega
    obtain ⟨r', h1, h2, h3⟩ := sh_loop n t e f (u.take n) out (digs_take hu n) hn1 ht he hf htl n 0 (u.take n) (by omega) htl (digs_take hu n) (fun p _ => rfl) (by simp [val]; omega)
    refine ⟨n + 1 + 1, out, r', val u, rd (u.take n) ((0 : Nat) : Int) % e, fun K => ?_, ho, h2, val_nonneg u hu, hlt, rfl, by rw [h3, hS], Int.emod_nonneg _ (by omega), Int.emod_lt_of_pos _ (by omega)⟩
    have g1 : ¬ ((0 : Nat) : Int) - 1 ≥ 0 := by omega
    have g2 : (0 : Int) ≤ (n : Int) := by omega
    have g3 : (n : Int) ≤ (u.length : Int) := by omega
    rw [← Nat.add_assoc]
    conv => lhs; unfold impl_divideDigits.l1
    rw [if_neg g1, if_pos g2, if_pos g3, Int.toNat_natCast, Option.bind_some, htl]
    exact h1 K
  | succ j ih =>
    intro u out hj hu hul ho hol hz hlt
    obtain ⟨s, u', Q, g1, g2, g3, g4, g5, g6, g7⟩ := div_digit n t j x11 u v out hu hvd hn hn1 (by omega) hv (by omega) (by omega) v10 hsec hlt
    obtain ⟨s', r1, r2, S, r0, k1, k2, k3, k4, k5, k6, k7⟩ := ih u' (out.set j Q) (by omega) g2 (by omega) (digs_set ho _ g5 g6) (by simpa using hol) (fun p hp => by rw [rd_set, if_neg (by omega), hz p (by omega)]) g7
    refine ⟨s' + s, r1, r2, S, r0, fun K => ?_, k2, k3, k4, k5, ?_, k7⟩
    · rw [show ((j + 1 : Nat) : Int) - 1 = (j : Int) by omega, ← Nat.add_assoc, g1]
      exact k1 K
    · rw [← k6, g4, val_set out j Q (by omega), hz j (by omega), Int.sub_zero]
      have g : val v * (val out + 4294967296 ^ j * Q) = val v * val out + Q * (val v * 4294967296 ^ j) := by grind
      omega
theorem wu32 (x : Int) (h0 : 0 ≤ x) (h1 : x < 4294967296) : IntKind.u32.wrap x = x := by
  have : IntKind.u32.wrap x = x % 4294967296 := by simp [IntKind.wrap, IntKind.bits, IntKind.signed]
  rw [this]; omega
theorem shl32 (x : Int) (i : Nat) (h : i ≤ 31) (h0 : 0 ≤ x * 2 ^ i) (h1 : x * 2 ^ i < 4294967296) : shl .u32 x (i : Int) = x * 2 ^ i := by
  unfold shl
  rw [Int.toNat_natCast, Nat.min_eq_left (by show i ≤ 32; omega)]
  exact wu32 _ h0 h1
theorem by_step (xs ys : List Int) (n t K : Nat) (y : Int) (hn : 1 ≤ n) (hn1 : n ≤ 1000) (hl : ys.length = n) (ht : t ≤ 31) (hy : rd ys ((n - 1 : Nat) : Int) = y) (y0 : 0 ≤ y) (hlt : y * 2 ^ t < 2147483648) : impl_divideDigits.l0 (K + 1) xs ys n t = impl_divideDigits.l0 K xs ys n ((t + 1 : Nat) : Int) := by
  have g1 : (0 : Int) ≤ ((n - 1 : Nat) : Int) := by omega
  have g2 : ((n - 1 : Nat) : Int) < (ys.length : Int) := by omega
  have g3 : (0 : Int) ≤ (t : Int) := by omega
  have p0 : 0 ≤ y * 2 ^ t := Int.mul_nonneg y0 (by have := two_pos t; omega)
  have w : IntKind.u64.wrap ((t : Int) + 1) = ((t + 1 : Nat) : Int) := by rw [u64_small (by omega) (by omega)]; omega
  have w2 := shl32 y t ht p0 (by omega)
  conv => lhs; unfold impl_divideDigits.l0
  rw [wr_pred hn (by omega), if_pos g1, if_pos g2, if_pos g3, hy, w2, if_pos hlt, w]
theorem by_loop (xs ys : List Int) (n : Nat) (y : Int) (hn : 1 ≤ n) (hn1 : n ≤ 1000) (hl : ys.length = n) (hy : rd ys ((n - 1 : Nat) : Int) = y) (y1 : 1 ≤ y) : ∀ (d t : Nat), t + d = 31 → y * 2 ^ t < 4294967296 → ∃ t' s : Nat, t' ≤ 31 ∧ 2147483648 ≤ y * 2 ^ t' ∧ y * 2 ^ t' < 4294967296 ∧ ∀ K, impl_divideDigits.l0 (K + s) xs ys n t = impl_divideDigits.l0 K xs ys n (t' : Int) := by
  intro d
  induction d with
  | zero =>
    intro t h h1
    have e : t = 31 := by omega
    subst e
    refine ⟨31, 0, Nat.le_refl _, ?_, h1, fun K => rfl⟩
    have : (2 : Int) ^ 31 = 2147483648 := rfl
    rw [this]; omega
  | succ d ih =>
    intro t h h1
    by_cases c : y * 2 ^ t < 2147483648
    · obtain ⟨t', s, g1, g2, g3, g4⟩ := ih (t + 1) (by omega) (by rw [Int.pow_succ, ← Int.mul_assoc]; omega)
      refine ⟨t', s + 1, g1, g2, g3, fun K => ?_⟩
      rw [← Nat.add_assoc, by_step xs ys n t (K + s) y hn hn1 hl (by omega) hy (by omega) c]
      exact g4 K
    · exact ⟨t, 0, by omega, by omega, h1, fun K => rfl⟩
theorem by_end (xs ys u w : List Int) (n t K : Nat) (y : Int) (hn : 1 ≤ n) (hn1 : n ≤ 1000) (hm : xs.length ≤ 1000) (hnm : n ≤ xs.length) (hl : ys.length = n) (ht : t ≤ 31) (hy : rd ys ((n - 1 : Nat) : Int) = y) (y0 : 0 ≤ y) (hge : 2147483648 ≤ y * 2 ^ t) (hlt : y * 2 ^ t < 4294967296) (hu : impl_doubled.f (K + 1) xs t = some u) (hw : impl_doubled.f (K + 1) ys t = some w) (hwl : w.length = n + 1) (hwd : Digs w) :
    impl_divideDigits.l0 (K + 1 + 1) xs ys n t = impl_divideDigits.l1 K n t u (w.take n) (List.replicate (xs.length - n + 1) 0) (if 2 ≤ n then rd (w.take n) ((n - 2 : Nat) : Int) else 0) (((xs.length - n + 1 : Nat) : Int) - 1) := by
  have g1 : (0 : Int) ≤ ((n - 1 : Nat) : Int) := by omega
  have g2 : ((n - 1 : Nat) : Int) < (ys.length : Int) := by omega
  have g3 : (0 : Int) ≤ (t : Int) := by omega
  have g4 : ¬ y * 2 ^ t < 2147483648 := by omega
  have g5 : (0 : Int) ≤ (n : Int) := by omega
  have g6 : (n : Int) ≤ (w.length : Int) := by omega
  have g7 : (0 : Int) ≤ ((xs.length - n + 1 : Nat) : Int) := by omega
  have g8 : xs.length - n + 1 ≤ 70368744177664 := by omega
  have g9 : ((xs.length - n : Nat) : Int) = ((xs.length - n + 1 : Nat) : Int) - 1 := by omega
  have w1 : wrap64 ((xs.length : Int) - (n : Int)) = ((xs.length - n : Nat) : Int) := wr_sub hnm (by omega)
  have w2 := shl32 y t ht (by omega) hlt
  conv => lhs; unfold impl_divideDigits.l0
  rw [wr_pred hn (by omega), if_pos g1, if_pos g2, if_pos g3, hy, w2, if_neg g4, hu, Option.bind_some, hw, Option.bind_some, if_pos g5, if_pos g6, Option.bind_some, w1, wr_succ (by omega), if_pos g7, Int.toNat_natCast, if_pos g8, Option.bind_some, Int.toNat_natCast]
  have hj : ∀ x : Int, impl_divideDigits.j1 (K + 1) xs n t u (w.take n) (List.replicate (xs.length - n + 1) 0) x = impl_divideDigits.l1 K n t u (w.take n) (List.replicate (xs.length - n + 1) 0) x (((xs.length - n + 1 : Nat) : Int) - 1) := by
    intro x
    simp only [impl_divideDigits.j1]
    rw [w1, g9]
  by_cases c : 2 ≤ n
  · have c' : (n : Int) > 1 := by omega
    have k1 : (0 : Int) ≤ ((n - 2 : Nat) : Int) := by omega
    have k2 : ((n - 2 : Nat) : Int) < ((w.take n).length : Int) := by rw [List.length_take]; omega
    have w3 : wrap64 ((n : Int) - 2) = ((n - 2 : Nat) : Int) := by rw [w64 (by omega) (by omega)]; omega
    have hr := rd_digs (digs_take hwd n) ((n - 2 : Nat) : Int)
    have w4 := u64_small hr.1 (by omega)
    rw [if_pos c', w3, if_pos k1, if_pos k2, if_pos c, hj, w4]
  · have c' : ¬ (n : Int) > 1 := by omega
    rw [if_neg c', if_neg c, hj]
theorem divideDigits_eq (xs ys : List Int) (hx : Digs xs) (hy : Can ys) (hne : ys ≠ []) (hm : xs.length ≤ 1000) (hnm : ys.length ≤ xs.length) : ∃ k r1 r2, impl_divideDigits.f k xs ys = some (r1, r2) ∧ Digs r1 ∧ Digs r2 ∧ val xs = val ys * val r1 + val r2 ∧ val r2 < val ys := by
  obtain ⟨n, hl⟩ : ∃ n, ys.length = n := ⟨_, rfl⟩
  rw [hl] at hnm
  have hn : 1 ≤ n := by rw [← hl]; exact List.length_pos_iff.2 hne
  have hn1 : n ≤ 1000 := by omega
  have hyp := can_pos ys hy hne
  obtain ⟨y, hyy⟩ : ∃ y, rd ys ((n - 1 : Nat) : Int) = y := ⟨_, rfl⟩
  have y01 := rd_digs hy.1 ((n - 1 : Nat) : Int)
  rw [hyy] at y01
  have y1 : 1 ≤ y := by
    have h := hy.2 hne
    rw [List.getLast_eq_getElem] at h
    have h2 := rd_mem (show n - 1 < ys.length by omega)
    rw [hyy] at h2
    have h3 : ys[ys.length - 1] = ys[n - 1] := by congr 1; omega
    rw [h3, ← h2] at h
    omega
  obtain ⟨t, s, t31, hge, hlt, hby⟩ := by_loop xs ys n y hn hn1 hl hyy y1 31 0 rfl (by rw [Int.pow_zero]; omega)
  obtain ⟨u, u1, u2, u3, u4⟩ := doubled_eq xs hx hm t t31
  obtain ⟨w, w1, w2, w3, w4⟩ := doubled_eq ys hy.1 (by omega) t t31
  rw [hl] at w1 w3
  have ep := two_pos t
  have el := two_le t31
  obtain ⟨e, he⟩ : ∃ e, (2 : Int) ^ t = e := ⟨_, rfl⟩
  have hf : ∃ f, e * f = 4294967296 := ⟨2 ^ (32 - t), by rw [← he, ← Int.pow_add, show t + (32 - t) = 32 by omega]; rfl⟩
  obtain ⟨f, hf⟩ := hf
  rw [he] at u4 w4 hge hlt ep el
  -- the digits below
  have V0 : val w < 4294967296 ^ n := by
    obtain ⟨m, rfl⟩ : ∃ m, n = m + 1 := ⟨n - 1, by omega⟩
    rw [show m + 1 - 1 = m by omega] at hyy
    have h := val_take_succ ys m (by omega)
    rw [List.take_of_length_le (by omega), hyy] at h
    have h2 := val_lt (ys.take m) (digs_take hy.1 m)
    rw [List.length_take, Nat.min_eq_left (by omega)] at h2
    have h3 : (y + 1) * e ≤ 4294967296 := by
      -- both are multiples of e
      have h4 : y * e < f * e := by rw [Int.mul_comm f e, hf]; exact hlt
      have h5 := Int.lt_of_mul_lt_mul_right h4 (by omega)
      have h6 : (y + 1) * e ≤ f * e := Int.mul_le_mul_of_nonneg_right (by omega) (by omega)
      rw [Int.mul_comm f e, hf] at h6
      exact h6
    have h7 : e * val ys < (y + 1) * e * 4294967296 ^ m := by
      have h8 : val ys < (y + 1) * 4294967296 ^ m := by
        have : (y + 1) * 4294967296 ^ m = 4294967296 ^ m * y + 4294967296 ^ m := by grind
        omega
      have h9 := Int.mul_lt_mul_of_pos_left h8 (show 0 < e by omega)
      have : e * ((y + 1) * 4294967296 ^ m) = (y + 1) * e * 4294967296 ^ m := by grind
      omega
    have h10 := Int.mul_le_mul_of_nonneg_right h3 (Int.le_of_lt (pw_pos m))
    rw [w4, pw_succ]
    omega
  have V1 : val (w.take n) = val w := take_zero_above (fun k hk => rd_zero_of_lt w2 V0 k hk)
  have vl : (w.take n).length = n := by rw [List.length_take]; omega
  have vd : Digs (w.take n) := digs_take w2 n
  have v10 : 2147483648 ≤ rd (w.take n) ((n - 1 : Nat) : Int) := by
    obtain ⟨m, rfl⟩ : ∃ m, n = m + 1 := ⟨n - 1, by omega⟩
    rw [show m + 1 - 1 = m by omega] at hyy ⊢
    have h := val_take_succ ys m (by omega)
    rw [List.take_of_length_le (by omega), hyy] at h
    have h0 := val_nonneg (ys.take m) (digs_take hy.1 m)
    obtain ⟨z, hz⟩ : ∃ z, rd (w.take (m + 1)) (m : Int) = z := ⟨_, rfl⟩
    have h2 := val_take_succ (w.take (m + 1)) m (by omega)
    rw [List.take_of_length_le (by omega), hz, V1, w4] at h2
    have h3 := val_lt ((w.take (m + 1)).take m) (digs_take vd m)
    rw [List.length_take, vl, Nat.min_eq_left (by omega)] at h3
    rw [hz]
    have p := pw_pos m
    have h4 : 4294967296 ^ m * y ≤ val ys := by omega
    have h5 := Int.mul_le_mul_of_nonneg_left h4 (show 0 ≤ e by omega)
    have h6 : e * (4294967296 ^ m * y) = (y * e) * 4294967296 ^ m := by grind
    have h7 := Int.mul_le_mul_of_nonneg_right hge (Int.le_of_lt p)
    rcases Int.lt_or_le z 2147483648 with h8 | h8
    · have h9 := Int.mul_le_mul_of_nonneg_left (show z ≤ 2147483647 by omega) (Int.le_of_lt p)
      omega
    · exact h8
  have U0 : val u < val (w.take n) * 4294967296 ^ (xs.length - n + 1) := by
    have h := val_lt xs hx
    rw [V1, w4, u4]
    obtain ⟨m, rfl⟩ : ∃ m, n = m + 1 := ⟨n - 1, by omega⟩
    have hc := can_ge hy hne
    rw [hl, show m + 1 - 1 = m by omega] at hc
    have h1 : (4294967296 : Int) ^ xs.length = 4294967296 ^ m * 4294967296 ^ (xs.length - (m + 1) + 1) := by rw [← Int.pow_add]; congr 1; omega
    have h2 := Int.mul_le_mul_of_nonneg_right hc (Int.le_of_lt (pw_pos (xs.length - (m + 1) + 1)))
    have h3 : val xs < val ys * 4294967296 ^ (xs.length - (m + 1) + 1) := by omega
    have h4 := Int.mul_lt_mul_of_pos_left h3 (show 0 < e by omega)
    rw [Int.mul_assoc]
    exact h4
  obtain ⟨s', r1, r2, S, r0, k1, k2, k3, k4, k5, k6, k7, k8, k9⟩ := div_main n t xs.length (if 2 ≤ n then rd (w.take n) ((n - 2 : Nat) : Int) else 0) e f (w.take n) vd hn hn1 hm hnm t31 he hf vl v10 rfl (xs.length - n + 1) u (List.replicate (xs.length - n + 1) 0) (by omega) u2 u3 (digs_replicate _) (by simp) (fun p _ => by rw [rd_nat, List.getD_eq_getElem?_getD, List.getElem?_replicate]; split <;> rfl) U0
  rw [val_replicate, Int.mul_zero, Int.add_zero, V1, u4, w4] at k6
  rw [V1, w4] at k5
  -- what is left is a multiple of e: nothing is lost by the shift
  have z1 : S = e * (val xs - val ys * val r1) := by
    have : e * (val xs - val ys * val r1) = e * val xs - e * val ys * val r1 := by grind
    omega
  have z2 : val r2 = val xs - val ys * val r1 := by
    rw [z1] at k7
    have h1 : e * (val xs - val ys * val r1 - val r2) = r0 := by
      have : e * (val xs - val ys * val r1 - val r2) = e * (val xs - val ys * val r1) - e * val r2 := by grind
      omega
    have h2 : e * (val xs - val ys * val r1 - val r2) < e * 1 := by omega
    have h3 := Int.lt_of_mul_lt_mul_left h2 (by omega)
    have h4 : e * (-1) < e * (val xs - val ys * val r1 - val r2) := by omega
    have h5 := Int.lt_of_mul_lt_mul_left h4 (by omega)
    omega
  have z3 : val r2 < val ys := by
    rw [z1, ← z2] at k5
    exact Int.lt_of_mul_lt_mul_left k5 (by omega)
  refine ⟨s' + xs.length + n + 1 + 1 + s, r1, r2, ?_, k2, k3, by omega, z3⟩
  have g : ¬ (xs.length : Int) < (ys.length : Int) := by omega
  unfold impl_divideDigits.f
  rw [if_neg g, hl]
  have hb := hby (s' + xs.length + n + 1 + 1)
  rw [show ((0 : Nat) : Int) = 0 from rfl] at hb
  rw [hb, by_end xs ys u w n t (s' + xs.length + n) y hn hn1 hm hnm hl t31 hyy (by omega) (by rw [he]; exact hge) (by rw [he]; exact hlt) (by rw [show s' + xs.length + n + 1 = (s' + n) + (xs.length + 1) by omega]; exact u1 _) (by rw [show s' + xs.length + n + 1 = (s' + xs.length) + (n + 1) by omega]; exact w1 _) w3 w2]
  have hk := k1 (xs.length + n)
  rw [show xs.length + n + s' = s' + xs.length + n by omega] at hk
  exact hk
end Go.Proofs.YtdgohcdemnmieaaDoor.A
