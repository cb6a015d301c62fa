import Derived.Test.YtenlaanknlafdaaA98
import Derived.Laws.Bits64b
import Derived.Test.YtenlaanknlafdaaA101
import Derived.Test.YtenlaanknlafdaaA102
import Derived.Test.YtenlaanknlafdaaA103
import Derived.Test.YtenlaanknlafdaaA104
import Derived.Test.YtenlaanknlafdaaA109
import Derived.Test.YtenlaanknlafdaaA99
import Derived.StillTailTactics
import Derived.Deep.RegionHeld3
import Derived.Deep.QuietTactic
import Derived.BigQuiet
import Derived.BigRegion
import Derived.Test.YtenlaanknlafdaaA46
import Derived.Test.YtenlaanknlafdaaA55
import Derived.Test.YtenlaanknlafdaaA85
/- Plain facts about digits of 32 bits, the least ones first. No conditions. -/
namespace Go.Proofs.Ytenlaanknlafdaa.A
set_option linter.unusedVariables false
set_option linter.unusedSimpArgs false
open Go.RowKit Go.Proofs.YtenlaanknlafdaaW.PrintWords Go.Proofs.YtenlaanknlafdaaW.PrintLast Go.Proofs.YtenlaanknlafdaaW.PrintMore
theorem w64 {x : Int} (h1 : -9223372036854775808 ≤ x) (h2 : x ≤ 9223372036854775807) : wrap64 x = x := by unfold wrap64; omega
theorem wu64 (n : Int) : IntKind.u64.wrap n = n % 18446744073709551616 := by simp [IntKind.wrap, IntKind.bits, IntKind.signed]
theorem u64_small {x : Int} (h0 : 0 ≤ x) (h1 : x < 18446744073709551616) : IntKind.u64.wrap x = x := by rw [wu64]; omega
theorem rd_nat (l : List Int) (i : Nat) : rd l (i : Int) = l.getD i 0 := by unfold rd; rw [Int.toNat_natCast]
theorem rd_mem {l : List Int} {i : Nat} (h : i < l.length) : rd l (i : Int) = l[i] := by rw [rd_nat]; simp [h]
theorem rd_out {l : List Int} {i : Nat} (h : l.length ≤ i) : rd l (i : Int) = 0 := by rw [rd_nat, List.getD_eq_getElem?_getD, List.getElem?_eq_none h]; rfl
theorem rd_digs {l : List Int} (h : Digs l) (i : Int) : 0 ≤ rd l i ∧ rd l i < 4294967296 := by
  unfold rd
  rw [List.getD_eq_getElem?_getD]
  rcases hq : l[i.toNat]? with _ | x
  · simp
  · exact h x (List.mem_of_getElem? hq)
theorem rd_set (l : List Int) (i j : Nat) (x : Int) : rd (l.set i x) (j : Int) = if i = j ∧ i < l.length then x else rd l (j : Int) := by
  rw [rd_nat, rd_nat, List.getD_eq_getElem?_getD, List.getD_eq_getElem?_getD, List.getElem?_set]
  by_cases h : i = j
  · subst h
    by_cases hl : i < l.length
    · simp [hl]
    · simp [hl]
  · simp [h]
theorem digs_set {l : List Int} (h : Digs l) (i : Nat) {x : Int} (h0 : 0 ≤ x) (h1 : x < 4294967296) : Digs (l.set i x) := by
  intro y hy
  rcases List.mem_or_eq_of_mem_set hy with h2 | h2
  · exact h y h2
  · subst h2; exact ⟨h0, h1⟩
theorem digs_replicate (n : Nat) : Digs (List.replicate n 0) := by
  intro x hx; rw [List.mem_replicate] at hx
  omega
theorem digs_take {l : List Int} (h : Digs l) (n : Nat) : Digs (l.take n) := fun x hx => h x (List.mem_of_mem_take hx)
theorem digs_append {l m : List Int} (h : Digs l) (h' : Digs m) : Digs (l ++ m) := fun x hx => (List.mem_append.1 hx).elim (h x) (h' x)
theorem val_replicate (n : Nat) : val (List.replicate n 0) = 0 := val_zero_drop _ (fun x hx => (List.mem_replicate.1 hx).2)
theorem val_set : ∀ (l : List Int) (i : Nat) (x : Int), i < l.length → val (l.set i x) = val l + 4294967296 ^ i * (x - rd l (i : Int))
  | [], _, _, h => by simp at h
  | a :: l, 0, x, _ => by simp [val, rd]; omega
  | a :: l, i + 1, x, h => by
    have h' : i < l.length := by simpa using h
    have e : rd (a :: l) ((i + 1 : Nat) : Int) = rd l (i : Int) := by rw [rd_nat, rd_nat]; simp
    simp only [List.set_cons_succ, val, val_set l i x h', e, Int.pow_succ]; rw [Int.mul_add, ← Int.mul_assoc, Int.mul_comm 4294967296 (4294967296 ^ i)]; omega
theorem val_take_succ (l : List Int) (i : Nat) (h : i < l.length) : val (l.take (i + 1)) = val (l.take i) + 4294967296 ^ i * rd l (i : Int) := by
  rw [List.take_succ_eq_append_getElem h, val_append, rd_mem h, List.length_take, Nat.min_eq_left (by omega)]
  simp [val]
theorem pw_pos (n : Nat) : (0 : Int) < 4294967296 ^ n := Int.pow_pos (by omega)
theorem pw_succ (n : Nat) : (4294967296 : Int) ^ (n + 1) = 4294967296 * 4294967296 ^ n := by rw [Int.pow_succ, Int.mul_comm]
theorem val_lt : ∀ (l : List Int), Digs l → val l < 4294967296 ^ l.length
  | [], _ => by simp [val]
  | x :: l, h => by
    have h1 := val_lt l (fun y hy => h y (by simp [hy])); have h2 := h x (by simp); simp only [val, List.length_cons, pw_succ]
    omega
theorem pw_mono {m n : Nat} (h : m ≤ n) : (4294967296 : Int) ^ m ≤ 4294967296 ^ n := by
  obtain ⟨d, rfl⟩ := Nat.exists_eq_add_of_le h; rw [Int.pow_add]; have h1 := pw_pos m; have h2 := pw_pos d; have := Int.mul_le_mul_of_nonneg_left (show (1 : Int) ≤ 4294967296 ^ d by omega) (Int.le_of_lt h1)
  omega
theorem can_ge {l : List Int} (h : Can l) (hne : l ≠ []) : 4294967296 ^ (l.length - 1) ≤ val l := by
  have hl := h.2 hne; have e := List.dropLast_concat_getLast hne; have hx := h.1 _ (List.getLast_mem hne)
  have h0 : val l = val l.dropLast + 4294967296 ^ l.dropLast.length * l.getLast hne := by
    have h9 : val (l.dropLast ++ [l.getLast hne]) = val l.dropLast + 4294967296 ^ l.dropLast.length * l.getLast hne := by rw [val_append]; simp [val]
    rw [e] at h9; exact h9
  have h1 := val_nonneg l.dropLast (fun y hy => h.1 y ((List.dropLast_sublist l).subset hy)); have h2 := pw_pos l.dropLast.length; have h3 := Int.mul_le_mul_of_nonneg_left (show (1 : Int) ≤ l.getLast hne by omega) (Int.le_of_lt h2)
  have h4 : l.dropLast.length = l.length - 1 := by simp
  rw [h4] at h0 h2 h3
  omega
theorem can_len {l : List Int} (h : Can l) {n : Nat} (hv : val l < 4294967296 ^ n) : l.length ≤ n := by
  rcases Nat.lt_or_ge n l.length with h1 | h1
  · have hne : l ≠ [] := by intro h2; rw [h2] at h1; simp at h1
    have h2 := can_ge h hne; have h3 := pw_mono (show n ≤ l.length - 1 by omega)
    omega
  · exact h1
theorem or_u64 (a b i : Nat) (h : a < 2 ^ i) (hb : b * 2 ^ i < 18446744073709551616) (ha : a < 18446744073709551616) : bits .or .u64 ((b : Int) * (2 : Int) ^ i) (a : Int) = (b : Int) * (2 : Int) ^ i + a := by
  have e : ((b : Int) * (2 : Int) ^ i) = ((b * 2 ^ i : Nat) : Int) := by push_cast; rfl
  rw [e, bits_or_u64_nat _ _ hb ha, ← Nat.shiftLeft_eq, ← Nat.shiftLeft_add_eq_or_of_lt h]
  omega
theorem or_u64' (a b i : Nat) (h : a < 2 ^ i) (hb : b * 2 ^ i < 18446744073709551616) (ha : a < 18446744073709551616) : bits .or .u64 (a : Int) ((b : Int) * (2 : Int) ^ i) = (b : Int) * (2 : Int) ^ i + a := by
  have e : ((b : Int) * (2 : Int) ^ i) = ((b * 2 ^ i : Nat) : Int) := by push_cast; rfl
  rw [e, bits_or_u64_nat _ _ ha hb, Nat.or_comm, ← Nat.shiftLeft_eq, ← Nat.shiftLeft_add_eq_or_of_lt h]
  omega
theorem and_low (x : Int) (h0 : 0 ≤ x) (h1 : x < 18446744073709551616) : bits .and .u64 x 4294967295 = x % 4294967296 := by
  obtain ⟨n, rfl⟩ := Int.eq_ofNat_of_zero_le h0; have := bits_and_u64_nat n 4294967295 (by omega) (by decide); rw [show ((4294967295 : Nat) : Int) = 4294967295 from rfl] at this; rw [this, show (4294967295 : Nat) = 2 ^ 32 - 1 from rfl, Nat.and_two_pow_sub_one_eq_mod]
  omega
theorem wr_add {i j : Nat} (h : i + j ≤ 4000000000) : wrap64 ((i : Int) + (j : Int)) = ((i + j : Nat) : Int) := by rw [w64 (by omega) (by omega)]; omega
theorem wr_succ {j : Nat} (h : j ≤ 4000000000) : wrap64 ((j : Int) + 1) = ((j + 1 : Nat) : Int) := by rw [w64 (by omega) (by omega)]; omega
theorem wr_sub {i j : Nat} (h : j ≤ i) (h1 : i ≤ 4000000000) : wrap64 ((i : Int) - (j : Int)) = ((i - j : Nat) : Int) := by rw [w64 (by omega) (by omega)]; omega
end Go.Proofs.Ytenlaanknlafdaa.A

/- What mulDigits computes: the product. Conditions: at most 1000 digits each. -/
namespace Go.Proofs.Ytenlaanknlafdaa.A
set_option linter.unusedVariables false
set_option linter.unusedSimpArgs false
open Go.RowKit Go.Proofs.YtenlaanknlafdaaW.PrintWords Go.Proofs.YtenlaanknlafdaaW.PrintLast Go.Proofs.YtenlaanknlafdaaW.PrintMore
theorem mul_step (ys xs out : List Int) (x c y o p L : Int) (i j : Nat) (hi : i ≤ 1000) (hn : ys.length ≤ 1000) (hj : j < ys.length) (hl : i + j < out.length) (hyy : rd ys (j : Int) = y) (hoo : rd out ((i + j : Nat) : Int) = o) (hp : x * y = p) (x0 : 0 ≤ x) (x1 : x < 4294967296) (y0 : 0 ≤ y) (y1 : y < 4294967296) (o0 : 0 ≤ o) (o1 : o < 4294967296) (c0 : 0 ≤ c) (c1 : c < 4294967296) (p0 : 0 ≤ p) (p1 : p ≤ 4294967295 * 4294967295) (K : Nat) :
    impl_mulDigits.l1 (K + 1) ys out i x c xs L i ys (ys.length : Int) j = impl_mulDigits.l1 K ys (out.set (i + j) ((c + (p + o)) % 4294967296)) i x ((c + (p + o)) / 4294967296) xs L i ys (ys.length : Int) ((j + 1 : Nat) : Int) := by
  have c1' : (j : Int) < (ys.length : Int) := by omega
  have c2' : (0 : Int) ≤ (j : Int) := by omega
  have c3' : (0 : Int) ≤ ((i + j : Nat) : Int) := by omega
  have c4' : ((i + j : Nat) : Int) < (out.length : Int) := by omega
  have ew := wr_add (i := i) (j := j) (by omega); have ew2 := wr_succ (j := j) (by omega)
  have e1 : IntKind.u64.wrap (c + (IntKind.u64.wrap ((IntKind.u64.wrap ((IntKind.u64.wrap x) * (IntKind.u64.wrap y))) + (IntKind.u64.wrap o)))) = c + (p + o) := by
    rw [u64_small x0 (by omega), u64_small y0 (by omega), hp, u64_small o0 (by omega), u64_small p0 (by omega), u64_small (x := p + o) (by omega) (by omega), u64_small (x := c + (p + o)) (by omega) (by omega)]
  conv => lhs; unfold impl_mulDigits.l1
  rw [if_pos c1', if_pos c2', if_pos c1', ew, ew2, if_pos c3', if_pos c4', hyy, hoo, e1, Int.toNat_natCast]
theorem mul_inner (ys xs : List Int) (hy : Digs ys) (x : Int) (x0 : 0 ≤ x) (x1 : x < 4294967296) (i : Nat) (hi : i ≤ 1000) (hn : ys.length ≤ 1000) (L : Int) : ∀ (d j : Nat) (out : List Int) (c : Int), j + d = ys.length → Digs out → i + ys.length < out.length → 0 ≤ c → c < 4294967296 →
    ∃ out' c', Digs out' ∧ out'.length = out.length ∧ 0 ≤ c' ∧ c' < 4294967296 ∧ val out' + 4294967296 ^ (i + ys.length) * c' + 4294967296 ^ i * (x * val (ys.take j)) = val out + 4294967296 ^ (i + j) * c + 4294967296 ^ i * (x * val ys) ∧ (∀ q : Nat, i + ys.length ≤ q → rd out' (q : Int) = rd out (q : Int)) ∧
      ∀ K, impl_mulDigits.l1 (K + d) ys out i x c xs L i ys (ys.length : Int) j = impl_mulDigits.l1 K ys out' i x c' xs L i ys (ys.length : Int) (ys.length : Int)
  | 0, j, out, c, hj, ho, hl, c0, c1 => by
    have e : j = ys.length := by omega
    subst e; refine ⟨out, c, ho, rfl, c0, c1, by rw [List.take_length], fun q _ => rfl, fun K => by rw [Nat.add_zero]⟩
  | d + 1, j, out, c, hj, ho, hl, c0, c1 => by
    have hy' := rd_digs hy (j : Int); have ho' := rd_digs ho ((i + j : Nat) : Int); obtain ⟨y, hyy⟩ : ∃ y, rd ys (j : Int) = y := ⟨_, rfl⟩; obtain ⟨o, hoo⟩ : ∃ o, rd out ((i + j : Nat) : Int) = o := ⟨_, rfl⟩; rw [hyy] at hy'; rw [hoo] at ho'; have hp0 : 0 ≤ x * y := Int.mul_nonneg x0 hy'.1; have hp1 : x * y ≤ 4294967295 * 4294967295 := Int.mul_le_mul (by omega) (by omega) hy'.1 (by omega); obtain ⟨p, hp⟩ : ∃ p, x * y = p := ⟨_, rfl⟩; rw [hp] at hp0 hp1; obtain ⟨out', c', h1, h2, h3, h4, h5, h6, h7⟩ := mul_inner ys xs hy x x0 x1 i hi hn L d (j + 1) (out.set (i + j) ((c + (p + o)) % 4294967296)) ((c + (p + o)) / 4294967296) (by omega) (digs_set ho _ (by omega) (by omega)) (by simpa using hl) (by omega) (by omega); refine ⟨out', c', h1, by simpa using h2, h3, h4, ?_, fun q hq => ?_, fun K => ?_⟩
    · rw [val_take_succ ys j (by omega), hyy, val_set out (i + j) _ (by omega), hoo] at h5
      have e1 : x * (val (ys.take j) + 4294967296 ^ j * y) = x * val (ys.take j) + 4294967296 ^ j * p := by
        rw [Int.mul_add, Int.mul_left_comm, hp]
      rw [e1, Int.mul_add, ← Int.mul_assoc (4294967296 ^ i) (4294967296 ^ j) p, ← Int.pow_add] at h5
      have e3 : ∀ q : Int, (4294967296 : Int) ^ (i + (j + 1)) * q = 4294967296 ^ (i + j) * (q * 4294967296) := fun q => by rw [← Nat.add_assoc, Int.pow_succ, Int.mul_assoc, Int.mul_comm 4294967296 q]
      rw [e3] at h5
      have e2 : (4294967296 : Int) ^ (i + j) * ((c + (p + o)) % 4294967296 - o) + 4294967296 ^ (i + j) * ((c + (p + o)) / 4294967296 * 4294967296) = 4294967296 ^ (i + j) * c + 4294967296 ^ (i + j) * p := by
        rw [← Int.mul_add, ← Int.mul_add]; congr 1; omega
      omega
    · rw [h6 q hq, rd_set, if_neg (by omega)]
    · rw [show K + (d + 1) = (K + d) + 1 by omega]; rw [mul_step ys xs out x c y o p L i j hi hn (by omega) (by omega) hyy hoo hp x0 x1 hy'.1 hy'.2 ho'.1 ho'.2 c0 c1 hp0 hp1]; exact h7 K
theorem mul_head (ys xs out : List Int) (i K : Nat) (x : Int) (hi : i < xs.length) (hxx : rd xs (i : Int) = x) : impl_mulDigits.l0 (K + 1) ys out xs (xs.length : Int) i = impl_mulDigits.l1 K ys out i x 0 xs (xs.length : Int) i ys (ys.length : Int) ((0 : Nat) : Int) := by
  have c1' : (i : Int) < (xs.length : Int) := by omega
  have c2' : (0 : Int) ≤ (i : Int) := by omega
  conv => lhs; unfold impl_mulDigits.l0
  rw [if_pos c1', if_pos c2', if_pos c1', hxx]
  rfl
theorem mul_tail (ys xs out : List Int) (x c L : Int) (i : Nat) (hi : i ≤ 1000) (hn : ys.length ≤ 1000) (hl : i + ys.length < out.length) (c0 : 0 ≤ c) (c1 : c < 4294967296) (K : Nat) : impl_mulDigits.l1 (K + 1) ys out i x c xs L i ys (ys.length : Int) (ys.length : Int) = impl_mulDigits.l0 K ys (out.set (i + ys.length) c) xs L ((i + 1 : Nat) : Int) := by
  have c1' : ¬ (ys.length : Int) < (ys.length : Int) := by omega
  have c2' : (0 : Int) ≤ ((i + ys.length : Nat) : Int) := by omega
  have c3' : ((i + ys.length : Nat) : Int) < (out.length : Int) := by omega
  have c4' : c % 4294967296 = c := by omega
  have ew := wr_add (i := i) (j := ys.length) (by omega); have ew2 := wr_succ (j := i) (by omega)
  conv => lhs; unfold impl_mulDigits.l1
  rw [if_neg c1', ew, ew2, if_pos c2', if_pos c3', Int.toNat_natCast, c4']
theorem mul_outer (ys xs : List Int) (hx : Digs xs) (hy : Digs ys) (hm : xs.length ≤ 1000) (hn : ys.length ≤ 1000) : ∀ (d i : Nat) (out : List Int), i + d = xs.length → Digs out → out.length = xs.length + ys.length → val out = val (xs.take i) * val ys → (∀ q : Nat, i + ys.length ≤ q → rd out (q : Int) = 0) →
    ∃ K r, impl_mulDigits.l0 K ys out xs (xs.length : Int) i = some r ∧ Digs r ∧ val r = val xs * val ys
  | 0, i, out, hi, ho, hl, hv, hz => by
    have e : i = xs.length := by omega
    subst e; refine ⟨1, out, ?_, ho, by rw [hv, List.take_length]⟩
    unfold impl_mulDigits.l0
    rw [if_neg (by omega)]
  | d + 1, i, out, hi, ho, hl, hv, hz => by
    have hx' := rd_digs hx (i : Int); obtain ⟨x, hxx⟩ : ∃ x, rd xs (i : Int) = x := ⟨_, rfl⟩; rw [hxx] at hx'; obtain ⟨out', c', h1, h2, h3, h4, h5, h6, h7⟩ := mul_inner ys xs hy x hx'.1 hx'.2 i (by omega) hn xs.length ys.length 0 out 0 (by omega) ho (by omega) (by omega) (by omega); simp only [List.take_zero, val, Int.mul_zero, Int.add_zero] at h5
    obtain ⟨K, r, g1, g2, g3⟩ := mul_outer ys xs hx hy hm hn d (i + 1) (out'.set (i + ys.length) c') (by omega) (digs_set h1 _ h3 h4) (by simp; omega) (by
      rw [val_set out' _ _ (by omega), h6 _ (Nat.le_refl _), hz _ (Nat.le_refl _), val_take_succ xs i (by omega), hxx, Int.add_mul, ← hv, Int.mul_assoc, Int.sub_zero]
      omega) (fun q hq => by rw [rd_set, if_neg (by omega), h6 q (by omega), hz q (by omega)])
    refine ⟨K + 1 + ys.length + 1, r, ?_, g2, g3⟩; rw [mul_head ys xs out i (K + 1 + ys.length) x (by omega) hxx, h7 (K + 1), mul_tail ys xs out' x c' (xs.length : Int) i (by omega) hn (by omega) h3 h4 K]; exact g1
theorem mulDigits_eq (xs ys : List Int) (hx : Digs xs) (hy : Digs ys) (hm : xs.length ≤ 1000) (hn : ys.length ≤ 1000) : ∃ k r, impl_mulDigits.f k xs ys = some r ∧ Digs r ∧ val r = val xs * val ys := by
  have ew := wr_add (i := xs.length) (j := ys.length) (by omega); obtain ⟨K, r, h1, h2, h3⟩ := mul_outer ys xs hx hy hm hn xs.length 0 (List.replicate (xs.length + ys.length) 0) (by omega) (digs_replicate _) (by simp) (by rw [val_replicate]; simp [val]) (fun q _ => by rw [rd_nat, List.getD_eq_getElem?_getD, List.getElem?_replicate]; split <;> rfl); refine ⟨K, r, ?_, h2, h3⟩
  unfold impl_mulDigits.f
  rw [ew, if_pos (by omega), if_pos (by omega), Int.toNat_natCast]; exact h1
end Go.Proofs.Ytenlaanknlafdaa.A

/- What addDigits, subDigits and compareDigits compute: the sum, the difference, the order. Conditions: at most 1000 digits each. -/
namespace Go.Proofs.Ytenlaanknlafdaa.A
set_option linter.unusedVariables false
set_option linter.unusedSimpArgs false
open Go.RowKit Go.Proofs.YtenlaanknlafdaaW.PrintWords Go.Proofs.YtenlaanknlafdaaW.PrintLast Go.Proofs.YtenlaanknlafdaaW.PrintMore
theorem val_take_next (l : List Int) (i : Nat) : val (l.take (i + 1)) = val (l.take i) + 4294967296 ^ i * rd l (i : Int) := by
  by_cases h : i < l.length
  · exact val_take_succ l i h
  · rw [rd_out (by omega), List.take_of_length_le (by omega), List.take_of_length_le (by omega)]; omega
theorem val_snoc (l : List Int) (x : Int) : val (l ++ [x]) = val l + 4294967296 ^ l.length * x := by rw [val_append]; simp [val]
theorem add_step (xs ys out : List Int) (c x y : Int) (i K : Nat) (hi : i ≤ 2000) (ho : out.length = i) (hx : rd xs (i : Int) = x) (hy : rd ys (i : Int) = y) (c0 : 0 ≤ c) (c1 : c ≤ 1) (x0 : 0 ≤ x) (x1 : x < 4294967296) (y0 : 0 ≤ y) (y1 : y < 4294967296) (hgo : i < xs.length ∨ i < ys.length ∨ 0 < c) :
    impl_addDigits.l0 (K + 2) xs ys out c i = impl_addDigits.l0 K xs ys (out ++ [(c + (x + y)) % 4294967296]) ((c + (x + y)) / 4294967296) ((i + 1 : Nat) : Int) := by
  have e0 : impl_addDigits.l0 (K + 2) xs ys out c i = impl_addDigits.j1 (K + 1) xs ys out c i true := by
    conv => lhs; unfold impl_addDigits.l0
    by_cases c1 : (i : Int) < (xs.length : Int)
    · rw [if_pos c1]
    · rw [if_neg c1]
      by_cases c2 : (i : Int) < (ys.length : Int)
      · rw [if_pos c2]
      · rw [if_neg c2]
        have c3 : c > 0 := by omega
        rw [decide_eq_true c3]
  rw [e0]
  conv => lhs; unfold impl_addDigits.j1
  have g0 : (0 : Int) ≤ (i : Int) := by omega
  have g1 : out.length < 35184372088832 := by omega
  have s1 : IntKind.u64.wrap x = x := u64_small x0 (by omega); have s2 : IntKind.u64.wrap y = y := u64_small y0 (by omega); have s3 : IntKind.u64.wrap (c + x) = c + x := u64_small (by omega) (by omega); have s4 : IntKind.u64.wrap (c + x + y) = c + x + y := u64_small (by omega) (by omega); have s5 : IntKind.u64.wrap (c + y) = c + y := u64_small (by omega) (by omega); rw [if_pos rfl, hx, hy, wr_succ (by omega), s1, s2, s3, s4, s5]
  by_cases c1 : (i : Int) < (xs.length : Int)
  · rw [if_pos c1, if_pos g0]
    by_cases c2 : (i : Int) < (ys.length : Int)
    · rw [if_pos c2, if_pos g1, Int.add_assoc]
    · have hy0 : y = 0 := by rw [← hy]; exact rd_out (by omega)
      rw [if_neg c2, if_pos g1, hy0, Int.add_zero]
  · have hx0 : x = 0 := by rw [← hx]; exact rd_out (by omega)
    rw [if_neg c1]
    by_cases c2 : (i : Int) < (ys.length : Int)
    · rw [if_pos c2, if_pos g0, if_pos g1, hx0, Int.zero_add]
    · have hy0 : y = 0 := by rw [← hy]; exact rd_out (by omega)
      rw [if_neg c2, if_pos g1, hx0, hy0, Int.zero_add, Int.add_zero]
theorem add_end (xs ys out : List Int) (i K : Nat) (hx : xs.length ≤ i) (hy : ys.length ≤ i) : impl_addDigits.l0 (K + 2) xs ys out 0 i = some out := by
  have c1 : ¬ (i : Int) < (xs.length : Int) := by omega
  have c2 : ¬ (i : Int) < (ys.length : Int) := by omega
  conv => lhs; unfold impl_addDigits.l0
  rw [if_neg c1, if_neg c2]
  rfl
theorem add_loop (xs ys : List Int) (hx : Digs xs) (hy : Digs ys) (hm : xs.length ≤ 1000) (hn : ys.length ≤ 1000) : ∀ (d i : Nat) (out : List Int) (c : Int), i + d = max xs.length ys.length + 1 → out.length = i → Digs out → 0 ≤ c → c ≤ 1 → (max xs.length ys.length < i → c = 0) → val out + 4294967296 ^ i * c = val (xs.take i) + val (ys.take i) →
    ∃ K r, impl_addDigits.l0 K xs ys out c i = some r ∧ Digs r ∧ val r = val xs + val ys
  | 0, i, out, c, hi, hl, ho, c0, c1, hc, hv => by
    have hc0 : c = 0 := hc (by omega); subst hc0; refine ⟨0 + 2, out, add_end xs ys out i 0 (by omega) (by omega), ho, ?_⟩; rw [List.take_of_length_le (by omega), List.take_of_length_le (by omega)] at hv
    omega
  | d + 1, i, out, c, hi, hl, ho, c0, c1, hc, hv => by
    by_cases hgo : i < xs.length ∨ i < ys.length ∨ 0 < c
    · have hx' := rd_digs hx (i : Int); have hy' := rd_digs hy (i : Int); obtain ⟨x, hxx⟩ : ∃ x, rd xs (i : Int) = x := ⟨_, rfl⟩; obtain ⟨y, hyy⟩ : ∃ y, rd ys (i : Int) = y := ⟨_, rfl⟩; rw [hxx] at hx'; rw [hyy] at hy'
      obtain ⟨K, r, h1, h2, h3⟩ := add_loop xs ys hx hy hm hn d (i + 1) (out ++ [(c + (x + y)) % 4294967296]) ((c + (x + y)) / 4294967296) (by omega) (by simp [hl]) (digs_append ho (by intro z hz; simp only [List.mem_singleton] at hz; subst hz; omega)) (by omega) (by omega) (fun h => by
        have a1 : x = 0 := by rw [← hxx]; exact rd_out (by omega)
        have a2 : y = 0 := by rw [← hyy]; exact rd_out (by omega)
        subst a1; subst a2; omega) (by
        rw [val_snoc, hl, val_take_next, val_take_next, hxx, hyy, Int.pow_succ, Int.mul_assoc]
        have e : (4294967296 : Int) ^ i * ((c + (x + y)) % 4294967296) + 4294967296 ^ i * (4294967296 * ((c + (x + y)) / 4294967296)) = 4294967296 ^ i * c + (4294967296 ^ i * x + 4294967296 ^ i * y) := by
          rw [← Int.mul_add, ← Int.mul_add, ← Int.mul_add]; congr 1; omega
        omega)
      refine ⟨K + 2, r, ?_, h2, h3⟩; rw [add_step xs ys out c x y i K (by omega) hl hxx hyy c0 c1 hx'.1 hx'.2 hy'.1 hy'.2 hgo]; exact h1
    · have hc0 : c = 0 := by omega
      subst hc0; refine ⟨0 + 2, out, add_end xs ys out i 0 (by omega) (by omega), ho, ?_⟩; rw [List.take_of_length_le (by omega), List.take_of_length_le (by omega)] at hv
      omega
theorem mx_nat (m n : Nat) : mx (m : Int) (n : Int) = ((max m n : Nat) : Int) := by unfold mx; split <;> omega
theorem addDigits_eq (xs ys : List Int) (hx : Digs xs) (hy : Digs ys) (hm : xs.length ≤ 1000) (hn : ys.length ≤ 1000) : ∃ k r, impl_addDigits.f k xs ys = some r ∧ Digs r ∧ val r = val xs + val ys := by
  obtain ⟨K, r, h1, h2, h3⟩ := add_loop xs ys hx hy hm hn (max xs.length ys.length + 1) 0 [] 0 (by omega) rfl (fun x hx => by simp at hx) (by omega) (by omega) (fun _ => rfl) (by simp [val]); refine ⟨K, r, ?_, h2, h3⟩
  unfold impl_addDigits.f
  rw [mx_nat, wr_succ (by omega), if_pos (by omega), if_pos (by omega)]; exact h1
theorem sub_step (xs ys out : List Int) (c x y : Int) (i K : Nat) (hi : i < xs.length) (hm : xs.length ≤ 1000) (ho : out.length = xs.length) (hx : rd xs (i : Int) = x) (hy : rd ys (i : Int) = y) (c0 : 0 ≤ c) (c1 : c ≤ 1) (x0 : 0 ≤ x) (x1 : x < 4294967296) (y0 : 0 ≤ y) (y1 : y < 4294967296) :
    impl_subDigits.l0 (K + 1) ys out c xs (xs.length : Int) i = impl_subDigits.l0 K ys (out.set i ((x - (c + y)) % 4294967296)) (if x < c + y then 1 else 0) xs (xs.length : Int) ((i + 1 : Nat) : Int) := by
  have g0 : (0 : Int) ≤ (i : Int) := by omega
  have g1 : (i : Int) < (xs.length : Int) := by omega
  have g2 : (i : Int) < (out.length : Int) := by omega
  have t1 : (x - (c + y)) % 18446744073709551616 % 4294967296 = (x - (c + y)) % 4294967296 := by omega
  have t2 : (x - c) % 18446744073709551616 % 4294967296 = (x - c) % 4294967296 := by omega
  have s1 : IntKind.u64.wrap x = x := u64_small x0 (by omega); have s2 : IntKind.u64.wrap y = y := u64_small y0 (by omega); have s3 : IntKind.u64.wrap (c + y) = c + y := u64_small (by omega) (by omega)
  conv => lhs; unfold impl_subDigits.l0
  rw [if_pos g1, if_pos g0, if_pos g1, hx, hy, wr_succ (by omega), s1, s2, s3, wu64, wu64, t1, t2, Int.toNat_natCast]
  by_cases c2 : (i : Int) < (ys.length : Int)
  · rw [if_pos c2, if_pos g2, Option.bind_some]
    by_cases c3 : x < c + y
    · rw [if_pos c3, if_pos c3]
    · rw [if_neg c3, if_neg c3]
  · have hy0 : y = 0 := by rw [← hy]; exact rd_out (by omega)
    rw [if_neg c2, if_pos g2, Option.bind_some, hy0, Int.add_zero]
    by_cases c3 : x < c
    · rw [if_pos c3, if_pos c3]
    · rw [if_neg c3, if_neg c3]
theorem take_set_next (l : List Int) (i : Nat) (x : Int) (h : i < l.length) : val ((l.set i x).take (i + 1)) = val (l.take i) + 4294967296 ^ i * x := by
  rw [val_take_succ _ i (by simpa using h), rd_set, if_pos ⟨rfl, h⟩]
  congr 2
  rw [List.take_set_of_le (Nat.le_refl i)]
theorem sub_loop (xs ys : List Int) (hx : Digs xs) (hy : Digs ys) (hm : xs.length ≤ 1000) : ∀ (d i : Nat) (out : List Int) (c : Int), i + d = xs.length → out.length = xs.length → Digs out → 0 ≤ c → c ≤ 1 → val (out.take i) = val (xs.take i) - val (ys.take i) + 4294967296 ^ i * c →
    ∃ K r c', impl_subDigits.l0 K ys out c xs (xs.length : Int) i = some r ∧ Digs r ∧ r.length = xs.length ∧ 0 ≤ c' ∧ c' ≤ 1 ∧ val r = val xs - val (ys.take xs.length) + 4294967296 ^ xs.length * c'
  | 0, i, out, c, hi, hl, ho, c0, c1, hv => by
    have e : i = xs.length := by omega
    subst e; refine ⟨1, out, c, ?_, ho, hl, c0, c1, ?_⟩
    · have g : ¬ (xs.length : Int) < (xs.length : Int) := by omega
      unfold impl_subDigits.l0
      rw [if_neg g]
    · rw [List.take_of_length_le (by omega), List.take_of_length_le (Nat.le_refl _)] at hv; exact hv
  | d + 1, i, out, c, hi, hl, ho, c0, c1, hv => by
    have hx' := rd_digs hx (i : Int); have hy' := rd_digs hy (i : Int); obtain ⟨x, hxx⟩ : ∃ x, rd xs (i : Int) = x := ⟨_, rfl⟩; obtain ⟨y, hyy⟩ : ∃ y, rd ys (i : Int) = y := ⟨_, rfl⟩; rw [hxx] at hx'; rw [hyy] at hy'
    obtain ⟨K, r, c', h1, h2⟩ := sub_loop xs ys hx hy hm d (i + 1) (out.set i ((x - (c + y)) % 4294967296)) (if x < c + y then 1 else 0) (by omega) (by simpa using hl) (digs_set ho _ (by omega) (by omega)) (by split <;> omega) (by split <;> omega) (by
      rw [take_set_next _ _ _ (by omega), hv, val_take_next, val_take_next, hxx, hyy, Int.pow_succ, Int.mul_assoc]
      have e : (4294967296 : Int) ^ i * ((x - (c + y)) % 4294967296) = 4294967296 ^ i * x - 4294967296 ^ i * y - 4294967296 ^ i * c + 4294967296 ^ i * (4294967296 * (if x < c + y then 1 else 0)) := by
        rw [← Int.mul_sub, ← Int.mul_sub, ← Int.mul_add]; congr 1; split <;> omega
      omega)
    refine ⟨K + 1, r, c', ?_, h2⟩; rw [sub_step xs ys out c x y i K (by omega) hm hl hxx hyy c0 c1 hx'.1 hx'.2 hy'.1 hy'.2]; exact h1
theorem subDigits_eq (xs ys : List Int) (hx : Digs xs) (hy : Can ys) (hm : xs.length ≤ 1000) (hle : val ys ≤ val xs) : ∃ k r, impl_subDigits.f k xs ys = some r ∧ Digs r ∧ val r = val xs - val ys := by
  have hn : ys.length ≤ xs.length := can_len hy (by have := val_lt xs hx; omega); obtain ⟨K, r, c', h1, h2, h3, h4, h5, h6⟩ := sub_loop xs ys hx hy.1 hm xs.length 0 (List.replicate xs.length 0) 0 (by omega) (by simp) (digs_replicate _) (by omega) (by omega) (by simp [val]); rw [List.take_of_length_le hn] at h6
  have hc : c' = 0 := by
    have a1 := val_lt r h2; rw [h3] at a1
    rcases (show c' = 0 ∨ c' = 1 by omega) with rfl | rfl
    · rfl
    · omega
  subst hc; refine ⟨K, r, ?_, h2, by omega⟩
  unfold impl_subDigits.f
  rw [if_pos (by omega), Int.toNat_natCast, if_pos (by omega)]; exact h1
theorem cmp_loop (xs ys : List Int) (hx : Digs xs) (hy : Digs ys) (hl : xs.length = ys.length) (hm : xs.length ≤ 1000) : ∀ (i : Nat), i ≤ xs.length → val xs - val ys = val (xs.take i) - val (ys.take i) → ∃ K r, impl_compareDigits.l0 K xs ys ((i : Int) - 1) = some r ∧ (0 ≤ r ↔ val ys ≤ val xs)
  | 0, hi, hv => by
    refine ⟨1, 0, ?_, ?_⟩
    · have g : ¬ ((0 : Nat) : Int) - 1 ≥ 0 := by omega
      unfold impl_compareDigits.l0
      rw [if_neg g]
    · simp only [List.take_zero, val] at hv; omega
  | i + 1, hi, hv => by
    have hx' := rd_digs hx (i : Int); have hy' := rd_digs hy (i : Int); obtain ⟨x, hxx⟩ : ∃ x, rd xs (i : Int) = x := ⟨_, rfl⟩; obtain ⟨y, hyy⟩ : ∃ y, rd ys (i : Int) = y := ⟨_, rfl⟩; rw [hxx] at hx'; rw [hyy] at hy'; rw [val_take_succ xs i (by omega), val_take_succ ys i (by omega), hxx, hyy] at hv; have a1 := val_lt (xs.take i) (digs_take hx i); have a2 := val_lt (ys.take i) (digs_take hy i); have a3 := val_nonneg (xs.take i) (digs_take hx i); have a4 := val_nonneg (ys.take i) (digs_take hy i); rw [List.length_take, Nat.min_eq_left (by omega)] at a1 a2
    have e : ((i + 1 : Nat) : Int) - 1 = (i : Int) := by omega
    have g0 : (i : Int) ≥ 0 := by omega
    have g1 : (i : Int) < (xs.length : Int) := by omega
    have g2 : (i : Int) < (ys.length : Int) := by omega
    have hw : wrap64 ((i : Int) - 1) = (i : Int) - 1 := w64 (by omega) (by omega)
    by_cases c1 : x = y
    · subst c1; obtain ⟨K, r, h1, h2⟩ := cmp_loop xs ys hx hy hl hm i (by omega) (by omega); refine ⟨K + 1, r, ?_, h2⟩
      unfold impl_compareDigits.l0
      rw [e, if_pos g0, if_pos g0, if_pos g1, if_pos g2, hxx, hyy, if_pos rfl, hw]; exact h1
    · by_cases c2 : x < y
      · refine ⟨1, -1, ?_, ?_⟩
        · unfold impl_compareDigits.l0
          rw [e, if_pos g0, if_pos g0, if_pos g1, if_pos g2, hxx, hyy, if_neg c1, if_pos c2]
        · have h3 : (4294967296 : Int) ^ i * x - 4294967296 ^ i * y ≤ - 4294967296 ^ i := by
            rw [← Int.mul_sub]; have := Int.mul_le_mul_of_nonneg_left (show x - y ≤ -1 by omega) (Int.le_of_lt (pw_pos i))
            omega
          omega
      · refine ⟨1, 1, ?_, ?_⟩
        · unfold impl_compareDigits.l0
          rw [e, if_pos g0, if_pos g0, if_pos g1, if_pos g2, hxx, hyy, if_neg c1, if_neg c2]
        · have h3 : (4294967296 : Int) ^ i ≤ 4294967296 ^ i * x - 4294967296 ^ i * y := by
            rw [← Int.mul_sub]; have := Int.mul_le_mul_of_nonneg_left (show 1 ≤ x - y by omega) (Int.le_of_lt (pw_pos i))
            omega
          omega
theorem can_longer {xs ys : List Int} (hx : Can xs) (hy : Digs ys) (h : ys.length < xs.length) : val ys < val xs := by
  have a1 := can_ge hx (by intro e; rw [e] at h; simp at h); have a2 := val_lt ys hy; have a3 := pw_mono (show ys.length ≤ xs.length - 1 by omega)
  omega
theorem compareDigits_eq (xs ys : List Int) (hx : Can xs) (hy : Can ys) (hm : xs.length ≤ 1000) (hn : ys.length ≤ 1000) : ∃ k r, impl_compareDigits.f k xs ys = some r ∧ (0 ≤ r ↔ val ys ≤ val xs) := by
  by_cases c : xs.length = ys.length
  · obtain ⟨K, r, h1, h2⟩ := cmp_loop xs ys hx.1 hy.1 c hm xs.length (Nat.le_refl _) (by rw [List.take_of_length_le (Nat.le_refl _), List.take_of_length_le (by omega)]); refine ⟨K, r, ?_, h2⟩; have hw : wrap64 ((xs.length : Int) - 1) = (xs.length : Int) - 1 := w64 (by omega) (by omega)
    unfold impl_compareDigits.f
    rw [if_pos (by omega), hw]; exact h1
  · have g : ¬ (xs.length : Int) = (ys.length : Int) := by omega
    have hw : wrap64 ((xs.length : Int) - (ys.length : Int)) = (xs.length : Int) - (ys.length : Int) := w64 (by omega) (by omega); refine ⟨0, mx (-1) (mn 1 ((xs.length : Int) - (ys.length : Int))), ?_, ?_⟩
    · unfold impl_compareDigits.f
      rw [if_neg g, hw]
    · clear hw
      rcases Nat.lt_or_ge ys.length xs.length with h | h
      · have := can_longer hx hy.1 h
        have e : mx (-1) (mn 1 ((xs.length : Int) - (ys.length : Int))) = 1 := by unfold mx mn; split <;> split <;> omega
        rw [e]; omega
      · have := can_longer hy hx.1 (show xs.length < ys.length by omega)
        have e : mx (-1) (mn 1 ((xs.length : Int) - (ys.length : Int))) = -1 := by unfold mx mn; split <;> split <;> omega
        rw [e]; omega
end Go.Proofs.Ytenlaanknlafdaa.A

/- What doubled computes: digits times a power of 2. Conditions: at most 1000 digits, a power of at most 31. -/
namespace Go.Proofs.Ytenlaanknlafdaa.A
set_option linter.unusedVariables false
set_option linter.unusedSimpArgs false
open Go.RowKit Go.Proofs.YtenlaanknlafdaaW.PrintWords Go.Proofs.YtenlaanknlafdaaW.PrintLast Go.Proofs.YtenlaanknlafdaaW.PrintMore
theorem or_low (a b : Int) (i : Nat) (h0 : 0 ≤ a) (h : a < 2 ^ i) (hb : 0 ≤ b) (hB : b * 2 ^ i < 18446744073709551616) (hA : a < 18446744073709551616) : bits .or .u64 a (b * 2 ^ i) = b * 2 ^ i + a := by
  obtain ⟨x, rfl⟩ := Int.eq_ofNat_of_zero_le h0; obtain ⟨y, rfl⟩ := Int.eq_ofNat_of_zero_le hb
  have e1 : ((2 : Int) ^ i) = ((2 ^ i : Nat) : Int) := by push_cast; rfl
  exact or_u64' x y i (by rw [e1] at h; omega) (by rw [e1, ← Int.natCast_mul] at hB; omega) (by omega)
theorem or_high (a b : Int) (i : Nat) (h0 : 0 ≤ a) (h : a < 2 ^ i) (hb : 0 ≤ b) (hB : b * 2 ^ i < 18446744073709551616) (hA : a < 18446744073709551616) : bits .or .u64 (b * 2 ^ i) a = b * 2 ^ i + a := by
  obtain ⟨x, rfl⟩ := Int.eq_ofNat_of_zero_le h0; obtain ⟨y, rfl⟩ := Int.eq_ofNat_of_zero_le hb
  have e1 : ((2 : Int) ^ i) = ((2 ^ i : Nat) : Int) := by push_cast; rfl
  exact or_u64 x y i (by rw [e1] at h; omega) (by rw [e1, ← Int.natCast_mul] at hB; omega) (by omega)
theorem two_pos (i : Nat) : (1 : Int) ≤ 2 ^ i := by have : (0 : Int) < 2 ^ i := Int.pow_pos (by omega); omega
theorem two_le {i : Nat} (h : i ≤ 31) : (2 : Int) ^ i ≤ 2147483648 := by
  have e : (2147483648 : Int) = 2 ^ 31 := rfl; rw [e]
  exact_mod_cast Nat.pow_le_pow_right (by omega) h
theorem shl64 (x : Int) (i : Nat) (h : i ≤ 31) (h0 : 0 ≤ x * 2 ^ i) (h1 : x * 2 ^ i < 18446744073709551616) : shl .u64 x (i : Int) = x * 2 ^ i := by
  unfold shl
  rw [Int.toNat_natCast, Nat.min_eq_left (by show i ≤ 64; omega)]; exact u64_small h0 h1
theorem dbl_step (xs out : List Int) (c x e p : Int) (i t K : Nat) (ht : t ≤ 31) (he : (2 : Int) ^ t = e) (hm : xs.length ≤ 1000) (hi : i < xs.length) (ho : i < out.length) (hx : rd xs (i : Int) = x) (x0 : 0 ≤ x) (x1 : x < 4294967296) (c0 : 0 ≤ c) (c1 : c < e) (hp : x * e = p) (p0 : 0 ≤ p) (p1 : p ≤ 4294967295 * e) :
    impl_doubled.l0 (K + 1) xs t out c xs (xs.length : Int) i = impl_doubled.l0 K xs t (out.set i ((p + c) % 4294967296)) ((p + c) / 4294967296) xs (xs.length : Int) ((i + 1 : Nat) : Int) := by
  have e1 := two_le ht; rw [he] at e1
  have g0 : (0 : Int) ≤ (i : Int) := by omega
  have g1 : (i : Int) < (xs.length : Int) := by omega
  have g2 : (0 : Int) ≤ (t : Int) := by omega
  have g3 : (i : Int) < (out.length : Int) := by omega
  have s1 : IntKind.u64.wrap x = x := u64_small x0 (by omega)
  have s2 : shl .u64 x (t : Int) = x * e := by rw [← he]; exact shl64 x t ht (by rw [he, hp]; exact p0) (by rw [he, hp]; omega)
  have s3 : bits .or .u64 c (x * e) = p + c := by rw [← hp, ← he]; exact or_low c x t c0 (by rw [he]; exact c1) x0 (by rw [he, hp]; omega) (by omega)
  conv => lhs; unfold impl_doubled.l0
  rw [if_pos g1, if_pos g0, if_pos g1, if_pos g2, if_pos g3, hx, s1, s2, s3, wr_succ (by omega), Int.toNat_natCast]
theorem dbl_loop (xs : List Int) (hx : Digs xs) (hm : xs.length ≤ 1000) (t : Nat) (ht : t ≤ 31) (e : Int) (he : (2 : Int) ^ t = e) : ∀ (d i : Nat) (out : List Int) (c : Int), i + d = xs.length → out.length = xs.length + 1 → Digs out → 0 ≤ c → c < e → val (out.take i) + 4294967296 ^ i * c = e * val (xs.take i) →
    ∃ r, (∀ K, impl_doubled.l0 (K + (d + 1)) xs t out c xs (xs.length : Int) i = some r) ∧ Digs r ∧ r.length = xs.length + 1 ∧ val r = e * val xs
  | 0, i, out, c, hi, hl, ho, c0, c1, hv => by
    have e1 := two_le ht; rw [he] at e1
    have e : i = xs.length := by omega
    subst e
    have g0 : ¬ (xs.length : Int) < (xs.length : Int) := by omega
    have g1 : (0 : Int) ≤ (xs.length : Int) := by omega
    have g2 : (xs.length : Int) < (out.length : Int) := by omega
    have g3 : c % 4294967296 = c := by omega
    refine ⟨out.set xs.length c, fun K => ?_, digs_set ho _ c0 (by omega), by simp [hl], ?_⟩
    · rw [Nat.zero_add]
      unfold impl_doubled.l0
      rw [if_neg g0, if_pos g1, if_pos g2, Int.toNat_natCast, g3]
    · have h := take_set_next out xs.length c (by omega); rw [List.take_of_length_le (by simp [hl])] at h; rw [h, hv, List.take_length]
  | d + 1, i, out, c, hi, hl, ho, c0, c1, hv => by
    have hx' := rd_digs hx (i : Int); obtain ⟨x, hxx⟩ : ∃ x, rd xs (i : Int) = x := ⟨_, rfl⟩; rw [hxx] at hx'; obtain ⟨p, hp⟩ : ∃ p, x * e = p := ⟨_, rfl⟩
    have p0 : 0 ≤ p := by rw [← hp]; exact Int.mul_nonneg hx'.1 (by omega)
    have p1 : p ≤ 4294967295 * e := by rw [← hp]; exact Int.mul_le_mul_of_nonneg_right (by omega) (by omega)
    obtain ⟨r, h1, h2⟩ := dbl_loop xs hx hm t ht e he d (i + 1) (out.set i ((p + c) % 4294967296)) ((p + c) / 4294967296) (by omega) (by simpa using hl) (digs_set ho _ (by omega) (by omega)) (by omega) (by omega) (by
      rw [take_set_next _ _ _ (by omega), val_take_next, hxx]
      have e2 : 4294967296 * ((p + c) / 4294967296) + (p + c) % 4294967296 = p + c := by omega
      have e3 : e * (val (xs.take i) + 4294967296 ^ i * x) = val (out.take i) + 4294967296 ^ i * c + 4294967296 ^ i * p := by rw [hv, ← hp]; grind
      rw [e3, Int.pow_succ]
      have e4 : (4294967296 : Int) ^ i * ((p + c) % 4294967296) + 4294967296 ^ i * 4294967296 * ((p + c) / 4294967296) = 4294967296 ^ i * (p + c) := by rw [← e2]; grind
      rw [Int.add_assoc, e4]; grind)
    refine ⟨r, fun K => ?_, h2⟩; rw [show K + (d + 1 + 1) = K + (d + 1) + 1 by omega, dbl_step xs out c x e p i t (K + (d + 1)) ht he hm (by omega) (by omega) hxx hx'.1 hx'.2 c0 c1 hp p0 p1]; exact h1 K
theorem doubled_eq (xs : List Int) (hx : Digs xs) (hm : xs.length ≤ 1000) (t : Nat) (ht : t ≤ 31) : ∃ r, (∀ K, impl_doubled.f (K + (xs.length + 1)) xs t = some r) ∧ Digs r ∧ r.length = xs.length + 1 ∧ val r = 2 ^ t * val xs := by
  obtain ⟨r, h1, h2⟩ := dbl_loop xs hx hm t ht (2 ^ t) rfl xs.length 0 (List.replicate (xs.length + 1) 0) 0 (by omega) (by simp) (digs_replicate _) (by omega) (by have := two_pos t; omega) (by simp [val]); refine ⟨r, fun K => ?_, h2⟩
  unfold impl_doubled.f
  rw [wr_succ (by omega), if_pos (by omega), Int.toNat_natCast, if_pos (by omega)]; exact h1 K
end Go.Proofs.Ytenlaanknlafdaa.A

/- The steps of divideDigits: the estimate of a digit, what is taken away, what is added back, what is shifted. No conditions. -/
namespace Go.Proofs.Ytenlaanknlafdaa.A
set_option linter.unusedVariables false
set_option linter.unusedSimpArgs false
open Go.RowKit Go.Proofs.YtenlaanknlafdaaW.PrintWords Go.Proofs.YtenlaanknlafdaaW.PrintLast Go.Proofs.YtenlaanknlafdaaW.PrintMore
theorem kn_le {A D P s t q : Int} (hP : 0 < P) (h1 : A < (t + 1) * P) (h2 : s * P ≤ D) (hq : q * D ≤ A) (q0 : 0 ≤ q) : q * s ≤ t := by
  have h3 : q * (s * P) ≤ q * D := Int.mul_le_mul_of_nonneg_left h2 q0
  have h4 : (q * s) * P < (t + 1) * P := by rw [Int.mul_assoc]; omega
  have := Int.lt_of_mul_lt_mul_right h4 (Int.le_of_lt hP)
  omega
theorem kn_up {A D P w t q : Int} (hP : 0 < P) (h : q * w ≤ t) (hA : t * P ≤ A) (hD : D ≤ (w + 1) * P) (hq : q ≤ w + 1) (q1 : 1 ≤ q) : (q - 1) * D ≤ A := by
  have h3 : (q - 1) * D ≤ (q - 1) * ((w + 1) * P) := Int.mul_le_mul_of_nonneg_left hD (by omega)
  have h4 : (q - 1) * ((w + 1) * P) = (q * w + q - w - 1) * P := by grind
  have h5 : (q * w + q - w - 1) * P ≤ t * P := Int.mul_le_mul_of_nonneg_right (by omega) (Int.le_of_lt hP)
  omega
theorem wr_pred {n : Nat} (h : 1 ≤ n) (h1 : n ≤ 4000000000) : wrap64 ((n : Int) - 1) = ((n - 1 : Nat) : Int) := by rw [w64 (by omega) (by omega)]; omega
theorem or32 (b a : Int) (b0 : 0 ≤ b) (b1 : b < 4294967296) (a0 : 0 ≤ a) (a1 : a < 4294967296) : bits .or .u64 (b * 4294967296) a = b * 4294967296 + a := by
  have h := or_high a b 32 a0 (by show a < 4294967296; omega) b0 (by show b * 4294967296 < 18446744073709551616; omega) (by omega); exact h
theorem adj_step (n K : Nat) (x7 x11 x12 q rest v1 th : Int) (u v out : List Int) (hn : 1 ≤ n) (hn1 : n ≤ 1000) (hv : v.length = n) (hv1 : rd v ((n - 1 : Nat) : Int) = v1) (v0 : 0 ≤ v1) (v2 : v1 < 4294967296) (r0 : 0 ≤ rest) (q1 : 1 ≤ q) (q2 : q < 8589934592) (s0 : 0 ≤ x11) (s1 : x11 < 4294967296) (t0 : 0 ≤ th) (t1 : th < 4294967296) (hr : rest < 4294967296) (hgo : 4294967296 ≤ q ∨ rest * 4294967296 + th < q * x11) :
    impl_divideDigits.l2 (K + 1) n x7 u v out x11 x12 q rest th = impl_divideDigits.l2 K n x7 u v out x11 x12 (q - 1) (rest + v1) th := by
  have g1 : (0 : Int) ≤ ((n - 1 : Nat) : Int) := by omega
  have g2 : ((n - 1 : Nat) : Int) < (v.length : Int) := by omega
  have w1 : IntKind.u64.wrap (q - 1) = q - 1 := u64_small (by omega) (by omega); have w2 : IntKind.u64.wrap v1 = v1 := u64_small v0 (by omega); have w3 : IntKind.u64.wrap (rest + v1) = rest + v1 := u64_small (by omega) (by omega); have w4 : IntKind.u64.wrap (rest * 4294967296) = rest * 4294967296 := u64_small (by omega) (by omega); have w5 : bits .or .u64 (rest * 4294967296) th = rest * 4294967296 + th := or32 rest th r0 hr t0 t1
  conv => lhs; unfold impl_divideDigits.l2
  rw [if_pos hr, wr_pred hn (by omega), if_pos g1, if_pos g2, hv1, w1, w2, w3, w4, w5]
  by_cases c : q ≥ 4294967296
  · rw [if_pos c]
  · have p0 : 0 ≤ q * x11 := Int.mul_nonneg (by omega) s0; have p1 : q * x11 ≤ 4294967295 * 4294967295 := Int.mul_le_mul (by omega) (by omega) s0 (by omega); have w6 : IntKind.u64.wrap (q * x11) = q * x11 := u64_small p0 (by omega); have c2 : q * x11 > rest * 4294967296 + th := hgo.resolve_left (by omega); rw [if_neg c, w6, if_pos c2]
theorem adj_end (n K : Nat) (x7 x11 x12 q rest th : Int) (u v out : List Int) (r0 : 0 ≤ rest) (q0 : 0 ≤ q) (s0 : 0 ≤ x11) (s1 : x11 < 4294967296) (t0 : 0 ≤ th) (t1 : th < 4294967296) (hgo : ¬ (rest < 4294967296 ∧ (4294967296 ≤ q ∨ rest * 4294967296 + th < q * x11))) :
    impl_divideDigits.l2 (K + 1) n x7 u v out x11 x12 q rest th = impl_divideDigits.j5 K n x7 u v out x11 x12 q := by
  conv => lhs; unfold impl_divideDigits.l2
  by_cases hr : rest < 4294967296
  · have c : ¬ q ≥ 4294967296 := fun h => hgo ⟨hr, Or.inl h⟩
    have p0 : 0 ≤ q * x11 := Int.mul_nonneg (by omega) s0; have p1 : q * x11 ≤ 4294967295 * 4294967295 := Int.mul_le_mul (by omega) (by omega) s0 (by omega)
    have c2 : ¬ q * x11 > rest * 4294967296 + th := fun h => hgo ⟨hr, Or.inr h⟩
    have w4 : IntKind.u64.wrap (rest * 4294967296) = rest * 4294967296 := u64_small (by omega) (by omega); have w5 : bits .or .u64 (rest * 4294967296) th = rest * 4294967296 + th := or32 rest th r0 hr t0 t1; have w6 : IntKind.u64.wrap (q * x11) = q * x11 := u64_small p0 (by omega); rw [if_pos hr, if_neg c, w4, w5, w6, if_neg c2]
  · rw [if_neg hr]
theorem adj_loop (n : Nat) (x7 x11 x12 v1 th two Q : Int) (u v out : List Int) (hn : 1 ≤ n) (hn1 : n ≤ 1000) (hv : v.length = n) (hv1 : rd v ((n - 1 : Nat) : Int) = v1) (v0 : 2147483648 ≤ v1) (v2 : v1 < 4294967296) (s0 : 0 ≤ x11) (s1 : x11 < 4294967296) (t0 : 0 ≤ th) (t1 : th < 4294967296) (Q0 : 0 ≤ Q) (QB : Q < 4294967296) (htwo : two < (v1 + 1) * 4294967296)
    (H1 : ∀ q rest, 0 ≤ q → 0 ≤ rest → q * v1 + rest = two → rest * 4294967296 + th < q * x11 → Q < q) (H2 : ∀ q rest, 0 ≤ q → q < 4294967296 → 0 ≤ rest → q * v1 + rest = two → q * x11 ≤ rest * 4294967296 + th → q ≤ Q + 1) (H3 : ∀ q rest, 0 ≤ q → q < 4294967296 → q * v1 + rest = two → 4294967296 ≤ rest → q ≤ Q + 1) :
    ∀ (d : Nat) (q rest : Int), q = Q + d → 0 ≤ rest → rest < 8589934592 → q * v1 + rest = two → ∃ q', Q ≤ q' ∧ q' ≤ Q + 1 ∧ q' < 4294967296 ∧ ∃ s, ∀ K, impl_divideDigits.l2 (K + s) n x7 u v out x11 x12 q rest th = impl_divideDigits.j5 K n x7 u v out x11 x12 q' := by
  intro d
  induction d with
  | zero =>
    intro q rest hq r0 r1 he
    have hgo : ¬ (rest < 4294967296 ∧ (4294967296 ≤ q ∨ rest * 4294967296 + th < q * x11)) := by
      rintro ⟨h1, h2 | h2⟩
      · omega
      · have := H1 q rest (by omega) r0 he h2; omega
    exact ⟨q, by omega, by omega, by omega, 1, fun K => adj_end n K x7 x11 x12 q rest th u v out r0 (by omega) s0 s1 t0 t1 hgo⟩
  | succ d ih =>
    intro q rest hq r0 r1 he
    have q0 : 0 ≤ q := by omega
    by_cases hgo : rest < 4294967296 ∧ (4294967296 ≤ q ∨ rest * 4294967296 + th < q * x11)
    · obtain ⟨q', h1, h2, h3, s, h4⟩ := ih (q - 1) (rest + v1) (by omega) (by omega) (by omega) (by rw [Int.sub_mul]; omega)
      have q2 : q < 8589934592 := by
        rcases Int.lt_or_le q 8589934592 with h | h
        · exact h
        · have := Int.mul_le_mul_of_nonneg_right h (show 0 ≤ v1 by omega)
          omega
      refine ⟨q', h1, h2, h3, s + 1, fun K => ?_⟩; rw [show K + (s + 1) = K + s + 1 by omega, adj_step n (K + s) x7 x11 x12 q rest v1 th u v out hn hn1 hv hv1 (by omega) v2 r0 (by omega) q2 s0 s1 t0 t1 hgo.1 hgo.2]; exact h4 K
    · have hB : 4294967296 ≤ q → rest < 4294967296 := fun h => by
        have := Int.mul_le_mul_of_nonneg_right h (show 0 ≤ v1 by omega)
        omega
      have qB : q < 4294967296 := by
        rcases Int.lt_or_le q 4294967296 with h | h
        · exact h
        · exact absurd ⟨hB h, Or.inl h⟩ hgo
      have hle : q ≤ Q + 1 := by
        by_cases hr : rest < 4294967296
        · exact H2 q rest q0 qB r0 he (by
            rcases Int.lt_or_le (rest * 4294967296 + th) (q * x11) with h | h
            · exact absurd ⟨hr, Or.inr h⟩ hgo
            · exact h)
        · exact H3 q rest q0 qB he (by omega)
      exact ⟨q, by omega, hle, qB, 1, fun K => adj_end n K x7 x11 x12 q rest th u v out r0 q0 s0 s1 t0 t1 hgo⟩
theorem ms_step (n j i K : Nat) (x7 x11 q c x y s : Int) (u v out : List Int) (hn1 : n ≤ 1000) (hj : j ≤ 2000) (hv : v.length = n) (hi : i < n) (hl : i + j < u.length) (hx : rd u ((i + j : Nat) : Int) = x) (hy : rd v (i : Int) = y) (x0 : 0 ≤ x) (x1 : x < 4294967296) (y0 : 0 ≤ y) (y1 : y < 4294967296) (hs : c + q * y = s) (q0 : 0 ≤ q * y) (q1 : q * y ≤ 4294967295 * 4294967295) (c0 : 0 ≤ c) (c1 : c < 4294967296) :
    impl_divideDigits.l3 (K + 1) n x7 u v out x11 j q c v (v.length : Int) i = impl_divideDigits.l3 K n x7 (u.set (i + j) ((x - s % 4294967296) % 4294967296)) v out x11 j q (s / 4294967296 + (if x < s % 4294967296 then 1 else 0)) v (v.length : Int) ((i + 1 : Nat) : Int) := by
  have g1 : (i : Int) < (v.length : Int) := by omega
  have g2 : (0 : Int) ≤ (i : Int) := by omega
  have g3 : (0 : Int) ≤ ((i + j : Nat) : Int) := by omega
  have g4 : ((i + j : Nat) : Int) < (u.length : Int) := by omega
  have b0 : 0 ≤ s := by omega
  have b1 : s < 18446744073709551616 := by omega
  have t1 : (x - s % 4294967296) % 18446744073709551616 % 4294967296 = (x - s % 4294967296) % 4294967296 := by omega
  have t2 : IntKind.u64.wrap (s / 4294967296 + 1) = s / 4294967296 + 1 := u64_small (by omega) (by omega); have w1 : IntKind.u64.wrap x = x := u64_small x0 (by omega); have w2 : IntKind.u64.wrap y = y := u64_small y0 (by omega); have w3 : IntKind.u64.wrap (q * y) = q * y := u64_small q0 (by omega); have w4 : IntKind.u64.wrap s = s := u64_small b0 b1; have w5 : bits .and .u64 s 4294967295 = s % 4294967296 := and_low s b0 b1
  conv => lhs; unfold impl_divideDigits.l3
  rw [if_pos g1, if_pos g2, if_pos g1, wr_add (by omega), wr_succ (by omega), if_pos g3, if_pos g4, hx, hy, w1, w2, w3, hs, w4, w5, wu64, t1, t2, Int.toNat_natCast, Option.bind_some]
  by_cases h : x < s % 4294967296
  · rw [if_pos h, if_pos h]
  · rw [if_neg h, if_neg h, Int.add_zero]
theorem ms_loop (n j : Nat) (x7 x11 q : Int) (v out : List Int) (hvd : Digs v) (hn1 : n ≤ 1000) (hj : j ≤ 2000) (hv : v.length = n) (q0 : 0 ≤ q) (q1 : q < 4294967296) : ∀ (d i : Nat) (u : List Int) (c : Int), i + d = n → Digs u → j + n < u.length → 0 ≤ c → c < 4294967296 →
    ∃ u' c', Digs u' ∧ u'.length = u.length ∧ 0 ≤ c' ∧ c' < 4294967296 ∧ val u' + q * 4294967296 ^ j * (val v - val (v.take i)) + 4294967296 ^ (i + j) * c = val u + 4294967296 ^ (n + j) * c' ∧ (∀ p : Nat, j + n ≤ p → rd u' (p : Int) = rd u (p : Int)) ∧
      ∀ K, impl_divideDigits.l3 (K + d) n x7 u v out x11 j q c v (v.length : Int) i = impl_divideDigits.l3 K n x7 u' v out x11 j q c' v (v.length : Int) (n : Int) := by
  intro d
  induction d with
  | zero =>
    intro i u c hi hu hl c0 c1
    have e : i = n := by omega
    subst e; refine ⟨u, c, hu, rfl, c0, c1, ?_, fun p _ => rfl, fun K => rfl⟩; rw [List.take_of_length_le (by omega), Int.sub_self, Int.mul_zero, Int.add_zero]
  | succ d ih =>
    intro i u c hi hu hl c0 c1; have hy' := rd_digs hvd (i : Int); have hx' := rd_digs hu ((i + j : Nat) : Int); obtain ⟨y, hyy⟩ : ∃ y, rd v (i : Int) = y := ⟨_, rfl⟩; obtain ⟨x, hxx⟩ : ∃ x, rd u ((i + j : Nat) : Int) = x := ⟨_, rfl⟩; rw [hyy] at hy'; rw [hxx] at hx'; have p0 : 0 ≤ q * y := Int.mul_nonneg q0 hy'.1; have p1 : q * y ≤ 4294967295 * 4294967295 := Int.mul_le_mul (by omega) (by omega) hy'.1 (by omega); obtain ⟨s, hs⟩ : ∃ s, c + q * y = s := ⟨_, rfl⟩; obtain ⟨u', c', h1, h2, h3, h4, h5, h6, h7⟩ := ih (i + 1) (u.set (i + j) ((x - s % 4294967296) % 4294967296)) (s / 4294967296 + (if x < s % 4294967296 then 1 else 0)) (by omega) (digs_set hu _ (by omega) (by omega)) (by simpa using hl) (by split <;> omega) (by split <;> omega); refine ⟨u', c', h1, by simpa using h2, h3, h4, ?_, fun p hp => ?_, fun K => ?_⟩
    · rw [val_take_succ v i (by omega), hyy, val_set u (i + j) _ (by omega), hxx] at h5
      have e1 : (4294967296 : Int) ^ (i + 1 + j) = 4294967296 ^ (i + j) * 4294967296 := by rw [← Int.pow_succ]; congr 1; omega
      have e2 : (4294967296 : Int) ^ (i + j) = 4294967296 ^ i * 4294967296 ^ j := Int.pow_add ..
      have e3 : ((x - s % 4294967296) % 4294967296 - x) - 4294967296 * (s / 4294967296 + (if x < s % 4294967296 then 1 else 0)) = -s := by split <;> omega
      rw [e1] at h5
      have e4 : (4294967296 : Int) ^ (i + j) * ((x - s % 4294967296) % 4294967296 - x) - 4294967296 ^ (i + j) * 4294967296 * (s / 4294967296 + (if x < s % 4294967296 then 1 else 0)) = 4294967296 ^ (i + j) * (-s) := by
        rw [← e3, Int.mul_assoc, ← Int.mul_sub]
      have e5 : q * 4294967296 ^ j * (val v - (val (v.take i) + 4294967296 ^ i * y)) = q * 4294967296 ^ j * (val v - val (v.take i)) - 4294967296 ^ (i + j) * (q * y) := by rw [e2]; grind
      have e6 : (4294967296 : Int) ^ (i + j) * (-s) = - (4294967296 ^ (i + j) * c) - 4294967296 ^ (i + j) * (q * y) := by rw [← hs]; grind
      rw [e5] at h5
      omega
    · rw [h6 p hp, rd_set, if_neg (by omega)]
    · rw [show K + (d + 1) = (K + d) + 1 by omega, ms_step n j i (K + d) x7 x11 q c x y s u v out hn1 hj hv (by omega) (by omega) hxx hyy hx'.1 hx'.2 hy'.1 hy'.2 hs p0 p1 c0 c1]; exact h7 K
theorem ab_step (n j i K : Nat) (x7 x11 q c x y : Int) (u v out : List Int) (hn1 : n ≤ 1000) (hj : j ≤ 2000) (hv : v.length = n) (hi : i < n) (hl : i + j < u.length) (hx : rd u ((i + j : Nat) : Int) = x) (hy : rd v (i : Int) = y) (x0 : 0 ≤ x) (x1 : x < 4294967296) (y0 : 0 ≤ y) (y1 : y < 4294967296) (c0 : 0 ≤ c) (c1 : c ≤ 1) :
    impl_divideDigits.l4 (K + 1) n x7 u v out x11 j q c v (v.length : Int) i = impl_divideDigits.l4 K n x7 (u.set (i + j) ((c + (x + y)) % 4294967296)) v out x11 j q ((c + (x + y)) / 4294967296) v (v.length : Int) ((i + 1 : Nat) : Int) := by
  have g1 : (i : Int) < (v.length : Int) := by omega
  have g2 : (0 : Int) ≤ (i : Int) := by omega
  have g3 : (0 : Int) ≤ ((i + j : Nat) : Int) := by omega
  have g4 : ((i + j : Nat) : Int) < (u.length : Int) := by omega
  have w1 : IntKind.u64.wrap x = x := u64_small x0 (by omega); have w2 : IntKind.u64.wrap y = y := u64_small y0 (by omega); have w3 : IntKind.u64.wrap (x + y) = x + y := u64_small (by omega) (by omega); have w4 : IntKind.u64.wrap (c + (x + y)) = c + (x + y) := u64_small (by omega) (by omega)
  conv => lhs; unfold impl_divideDigits.l4
  rw [if_pos g1, if_pos g2, if_pos g1, wr_add (by omega), wr_succ (by omega), if_pos g3, if_pos g4, hx, hy, w1, w2, w3, w4, Int.toNat_natCast]
theorem ab_loop (n j : Nat) (x7 x11 q : Int) (v out : List Int) (hvd : Digs v) (hn1 : n ≤ 1000) (hj : j ≤ 2000) (hv : v.length = n) : ∀ (d i : Nat) (u : List Int) (c : Int), i + d = n → Digs u → j + n < u.length → 0 ≤ c → c ≤ 1 →
    ∃ u' c', Digs u' ∧ u'.length = u.length ∧ 0 ≤ c' ∧ c' ≤ 1 ∧ val u' + 4294967296 ^ (n + j) * c' = val u + 4294967296 ^ j * (val v - val (v.take i)) + 4294967296 ^ (i + j) * c ∧ (∀ p : Nat, j + n ≤ p → rd u' (p : Int) = rd u (p : Int)) ∧
      ∀ K, impl_divideDigits.l4 (K + d) n x7 u v out x11 j q c v (v.length : Int) i = impl_divideDigits.l4 K n x7 u' v out x11 j q c' v (v.length : Int) (n : Int) := by
  intro d
  induction d with
  | zero =>
    intro i u c hi hu hl c0 c1
    have e : i = n := by omega
    subst e; refine ⟨u, c, hu, rfl, c0, c1, ?_, fun p _ => rfl, fun K => rfl⟩; rw [List.take_of_length_le (by omega), Int.sub_self, Int.mul_zero, Int.add_zero]
  | succ d ih =>
    intro i u c hi hu hl c0 c1; have hy' := rd_digs hvd (i : Int); have hx' := rd_digs hu ((i + j : Nat) : Int); obtain ⟨y, hyy⟩ : ∃ y, rd v (i : Int) = y := ⟨_, rfl⟩; obtain ⟨x, hxx⟩ : ∃ x, rd u ((i + j : Nat) : Int) = x := ⟨_, rfl⟩; rw [hyy] at hy'; rw [hxx] at hx'; obtain ⟨u', c', h1, h2, h3, h4, h5, h6, h7⟩ := ih (i + 1) (u.set (i + j) ((c + (x + y)) % 4294967296)) ((c + (x + y)) / 4294967296) (by omega) (digs_set hu _ (by omega) (by omega)) (by simpa using hl) (by omega) (by omega); refine ⟨u', c', h1, by simpa using h2, h3, h4, ?_, fun p hp => ?_, fun K => ?_⟩
    · rw [val_take_succ v i (by omega), hyy, val_set u (i + j) _ (by omega), hxx] at h5
      have e1 : (4294967296 : Int) ^ (i + 1 + j) = 4294967296 ^ (i + j) * 4294967296 := by rw [← Int.pow_succ]; congr 1; omega
      have e2 : (4294967296 : Int) ^ (i + j) = 4294967296 ^ i * 4294967296 ^ j := Int.pow_add ..
      have e3 : ((c + (x + y)) % 4294967296 - x) + 4294967296 * ((c + (x + y)) / 4294967296) = c + y := by omega
      rw [e1] at h5
      have e4 : (4294967296 : Int) ^ (i + j) * ((c + (x + y)) % 4294967296 - x) + 4294967296 ^ (i + j) * 4294967296 * ((c + (x + y)) / 4294967296) = 4294967296 ^ (i + j) * (c + y) := by
        rw [← e3, Int.mul_assoc, ← Int.mul_add]
      have e5 : (4294967296 : Int) ^ j * (val v - (val (v.take i) + 4294967296 ^ i * y)) = 4294967296 ^ j * (val v - val (v.take i)) - 4294967296 ^ (i + j) * y := by rw [e2]; grind
      have e6 : (4294967296 : Int) ^ (i + j) * (c + y) = 4294967296 ^ (i + j) * c + 4294967296 ^ (i + j) * y := Int.mul_add ..; rw [e5] at h5
      omega
    · rw [h6 p hp, rd_set, if_neg (by omega)]
    · rw [show K + (d + 1) = (K + d) + 1 by omega, ab_step n j i (K + d) x7 x11 q c x y u v out hn1 hj hv (by omega) (by omega) hxx hyy hx'.1 hx'.2 hy'.1 hy'.2 c0 c1]; exact h7 K
theorem ms_end (n j K : Nat) (x7 x11 q c t : Int) (u v out : List Int) (hn1 : n ≤ 1000) (hj : j ≤ 2000) (hv : v.length = n) (hl : j + n < u.length) (hjo : j < out.length) (ht : rd u ((j + n : Nat) : Int) = t) (t0 : 0 ≤ t) (t1 : t < 4294967296) (c0 : 0 ≤ c) (c1 : c < 4294967296) (q0 : 0 ≤ q) (q1 : q < 4294967296) :
    impl_divideDigits.l3 (K + 1) n x7 u v out x11 j q c v (v.length : Int) (n : Int) = if t < c then impl_divideDigits.l4 K n x7 (u.set (j + n) ((t - c) % 4294967296)) v out x11 j (IntKind.u64.wrap (q - 1)) 0 v (v.length : Int) ((0 : Nat) : Int) else impl_divideDigits.l1 K n x7 (u.set (j + n) ((t - c) % 4294967296)) v (out.set j q) x11 ((j : Int) - 1) := by
  have g1 : ¬ (n : Int) < (v.length : Int) := by omega
  have g2 : (0 : Int) ≤ ((j + n : Nat) : Int) := by omega
  have g3 : ((j + n : Nat) : Int) < (u.length : Int) := by omega
  have g4 : (0 : Int) ≤ (j : Int) := by omega
  have g5 : (j : Int) < (out.length : Int) := by omega
  have t2 : c % 4294967296 = c := by omega
  have t3 : q % 4294967296 = q := by omega
  have w1 : IntKind.u64.wrap t = t := u64_small t0 (by omega); have w2 : wrap64 ((j : Int) - 1) = (j : Int) - 1 := w64 (by omega) (by omega)
  conv => lhs; unfold impl_divideDigits.l3
  rw [if_neg g1, wr_add (by omega), if_pos g2, if_pos g3, Option.bind_some, if_pos g4, if_pos g5, ht, t2, t3, w1, w2, Int.toNat_natCast, Int.toNat_natCast]
  rfl
theorem ab_end (n j K : Nat) (x7 x11 q c t : Int) (u v out : List Int) (hn1 : n ≤ 1000) (hj : j ≤ 2000) (hv : v.length = n) (hl : j + n < u.length) (hjo : j < out.length) (ht : rd u ((j + n : Nat) : Int) = t) (c0 : 0 ≤ c) (c1 : c ≤ 1) (q0 : 0 ≤ q) (q1 : q < 4294967296) :
    impl_divideDigits.l4 (K + 1) n x7 u v out x11 j q c v (v.length : Int) (n : Int) = impl_divideDigits.l1 K n x7 (u.set (j + n) ((t + c) % 4294967296)) v (out.set j q) x11 ((j : Int) - 1) := by
  have g1 : ¬ (n : Int) < (v.length : Int) := by omega
  have g2 : (0 : Int) ≤ ((j + n : Nat) : Int) := by omega
  have g3 : ((j + n : Nat) : Int) < (u.length : Int) := by omega
  have g4 : (0 : Int) ≤ (j : Int) := by omega
  have g5 : (j : Int) < (out.length : Int) := by omega
  have t2 : c % 4294967296 = c := by omega
  have t3 : q % 4294967296 = q := by omega
  have w2 : wrap64 ((j : Int) - 1) = (j : Int) - 1 := w64 (by omega) (by omega)
  conv => lhs; unfold impl_divideDigits.l4
  rw [if_neg g1, wr_add (by omega), if_pos g2, if_pos g3, if_pos g4, if_pos g5, ht, t2, t3, w2, Int.toNat_natCast, Int.toNat_natCast]
end Go.Proofs.Ytenlaanknlafdaa.A

/- What divideDigits computes: the quotient and the rest. Conditions: at most 900 digits each, at least as many above as below. -/
namespace Go.Proofs.Ytenlaanknlafdaa.A
set_option linter.unusedVariables false
set_option linter.unusedSimpArgs false
open Go.RowKit Go.Proofs.YtenlaanknlafdaaW.PrintWords Go.Proofs.YtenlaanknlafdaaW.PrintLast Go.Proofs.YtenlaanknlafdaaW.PrintMore
theorem shr_eq (a f e x : Int) (he : e * f = 4294967296) (e1 : 1 ≤ e) (a0 : 0 ≤ a) (x0 : 0 ≤ x) (x1 : x < 4294967296) : e * (((a * 4294967296 + x) / e) % 4294967296) = x - x % e + 4294967296 * (a % e) := by
  have h1 : a * 4294967296 + x = x + e * (a * f) := by rw [← he]; grind
  have h2 : (a * 4294967296 + x) / e = x / e + a * f := by rw [h1, Int.add_mul_ediv_left _ _ (by omega)]
  have h3 : e * (a / e) + a % e = a := Int.mul_ediv_add_emod a e; have h4 : e * (x / e) + x % e = x := Int.mul_ediv_add_emod x e; have h5 : 0 ≤ a % e := Int.emod_nonneg _ (by omega); have h6 : a % e < e := Int.emod_lt_of_pos _ (by omega); have h7 : 0 ≤ x % e := Int.emod_nonneg _ (by omega); have h8 : 0 ≤ x / e := Int.ediv_nonneg x0 (by omega); obtain ⟨k, hk⟩ : ∃ k, a / e = k := ⟨_, rfl⟩; obtain ⟨r, hr⟩ : ∃ r, a % e = r := ⟨_, rfl⟩; obtain ⟨y, hy⟩ : ∃ y, x / e = y := ⟨_, rfl⟩; obtain ⟨z, hz⟩ : ∃ z, x % e = z := ⟨_, rfl⟩; rw [hk, hr] at h3; rw [hy, hz] at h4; rw [hr] at h5 h6; rw [hz] at h7; rw [hy] at h8; rw [h2, hr, hy, hz]
  have f0 : 0 < f := by
    rcases Int.lt_or_le 0 f with h | h
    · exact h
    · have := Int.mul_le_mul_of_nonneg_left h (show 0 ≤ e by omega)
      omega
  have g1 : y < f := by
    rcases Int.lt_or_le y f with h | h
    · exact h
    · have := Int.mul_le_mul_of_nonneg_left h (show 0 ≤ e by omega)
      omega
  have g2 : a * f = k * 4294967296 + r * f := by rw [← he, ← h3]; grind
  have g3 : r * f ≤ (e - 1) * f := Int.mul_le_mul_of_nonneg_right (by omega) (by omega)
  have g4 : (e - 1) * f = 4294967296 - f := by rw [← he]; grind
  have g5 : 0 ≤ r * f := Int.mul_nonneg h5 (by omega)
  have g6 : (y + a * f) % 4294967296 = y + r * f := by rw [g2]; omega
  rw [g6, Int.mul_add]
  have g7 : e * (r * f) = 4294967296 * r := by rw [← he]; grind
  omega
theorem sh_step (n t i K : Nat) (a x e : Int) (r out : List Int) (hn : n ≤ 1000) (ht : t ≤ 31) (he : (2 : Int) ^ t = e) (hr : r.length = n) (hi : i < n) (ha : rd r ((i + 1 : Nat) : Int) = a) (hx : rd r (i : Int) = x) (a0 : 0 ≤ a) (a1 : a < 4294967296) (x0 : 0 ≤ x) (x1 : x < 4294967296) :
    impl_divideDigits.l5 (K + 1) n t out r (n : Int) i = impl_divideDigits.l5 K n t out (r.set i (((a * 4294967296 + x) / e) % 4294967296)) (n : Int) ((i + 1 : Nat) : Int) := by
  have g1 : (i : Int) < (n : Int) := by omega
  have g2 : (0 : Int) ≤ (i : Int) := by omega
  have g3 : (i : Int) < (r.length : Int) := by omega
  have g4 : (0 : Int) ≤ (t : Int) := by omega
  have g5 : (0 : Int) ≤ ((i + 1 : Nat) : Int) := by omega
  have w1 : IntKind.u64.wrap x = x := u64_small x0 (by omega); have w2 : IntKind.u64.wrap a = a := u64_small a0 (by omega); have w3 : IntKind.u64.wrap (a * 4294967296) = a * 4294967296 := u64_small (by omega) (by omega); have w4 : bits .or .u64 (a * 4294967296) x = a * 4294967296 + x := or32 a x a0 a1 x0 x1
  have w5 : ∀ y : Int, shr .u64 y (t : Int) = y / e := fun y => by unfold shr; rw [Int.toNat_natCast, Nat.min_eq_left (by show t ≤ 64; omega), he]
  conv => lhs; unfold impl_divideDigits.l5
  rw [if_pos g1, wr_succ (by omega), hx, w1]
  by_cases h : ((i + 1 : Nat) : Int) < (n : Int)
  · have g6 : ((i + 1 : Nat) : Int) < (r.length : Int) := by omega
    rw [if_pos h, if_pos g5, if_pos g6, if_pos g2, if_pos g3, if_pos g4, ha, w2, w3, w4, w5, Int.toNat_natCast]
  · have a2 : a = 0 := by rw [← ha]; exact rd_out (by omega)
    subst a2; rw [Int.zero_mul, Int.zero_add] at w4; rw [if_neg h, if_pos g2, if_pos g3, if_pos g4, w4, w5, Int.toNat_natCast, Int.zero_mul, Int.zero_add]
theorem sh_loop (n t : Nat) (e f : Int) (S out : List Int) (hS : Digs S) (hn : n ≤ 1000) (ht : t ≤ 31) (he : (2 : Int) ^ t = e) (hf : e * f = 4294967296) (hl : S.length = n) : ∀ (d i : Nat) (r : List Int), i + d = n → r.length = n → Digs r → (∀ p : Nat, i ≤ p → rd r (p : Int) = rd S (p : Int)) → e * val (r.take i) = val (S.take i) - rd S ((0 : Nat) : Int) % e + 4294967296 ^ i * (rd S (i : Int) % e) →
    ∃ r', (∀ K, impl_divideDigits.l5 (K + (d + 1)) n t out r (n : Int) i = some (out, r')) ∧ Digs r' ∧ e * val r' = val S - rd S ((0 : Nat) : Int) % e := by
  intro d
  induction d with
  | zero =>
    intro i r hi hr hd hp hv
    have e0 : i = n := by omega
    subst e0
    have g : ¬ (i : Int) < (i : Int) := by omega
    refine ⟨r, fun K => ?_, hd, ?_⟩
    · conv => lhs; unfold impl_divideDigits.l5
      rw [if_neg g]
    · have hz : rd S (i : Int) = 0 := rd_out (by omega); rw [List.take_of_length_le (by omega), List.take_of_length_le (by omega), hz, Int.zero_emod, Int.mul_zero, Int.add_zero] at hv; exact hv
  | succ d ih =>
    intro i r hi hr hd hp hv
    have e1 : 1 ≤ e := by rw [← he]; exact two_pos t
    have hx' := rd_digs hS (i : Int); have ha' := rd_digs hS ((i + 1 : Nat) : Int); obtain ⟨x, hxx⟩ : ∃ x, rd S (i : Int) = x := ⟨_, rfl⟩; obtain ⟨a, haa⟩ : ∃ a, rd S ((i + 1 : Nat) : Int) = a := ⟨_, rfl⟩; rw [hxx] at hx'; rw [haa] at ha'; have hz := shr_eq a f e x hf e1 ha'.1 hx'.1 hx'.2; obtain ⟨z, hzz⟩ : ∃ z, ((a * 4294967296 + x) / e) % 4294967296 = z := ⟨_, rfl⟩
    have z0 : 0 ≤ z ∧ z < 4294967296 := by rw [← hzz]; omega
    obtain ⟨r', h1, h2, h3⟩ := ih (i + 1) (r.set i z) (by omega) (by simpa using hr) (digs_set hd _ z0.1 z0.2) (fun p hp' => by rw [rd_set, if_neg (by omega), hp p (by omega)]) (by
      rw [take_set_next _ _ _ (by omega), val_take_next, haa, hxx, Int.mul_add, hv, hxx]; rw [hzz] at hz
      have g1 : e * (4294967296 ^ i * z) = 4294967296 ^ i * (x - x % e + 4294967296 * (a % e)) := by rw [← hz]; grind
      rw [g1, Int.pow_succ]; grind)
    refine ⟨r', fun K => ?_, h2, h3⟩; rw [show K + (d + 1 + 1) = K + (d + 1) + 1 by omega, sh_step n t i (K + (d + 1)) a x e r out hn ht he hr (by omega) (by rw [hp _ (by omega), haa]) (by rw [hp _ (by omega), hxx]) ha'.1 ha'.2 hx'.1 hx'.2, hzz]; exact h1 K
theorem val_zero_all : ∀ (l : List Int), Digs l → val l = 0 → ∀ x ∈ l, x = 0
  | [], _, _ => by simp
  | a :: l, h, hv => by
    have h1 := h a (by simp)
    have h2 : Digs l := fun y hy => h y (by simp [hy])
    have h3 := val_nonneg l h2; simp only [val] at hv; intro x hx
    rcases List.mem_cons.1 hx with rfl | hx
    · omega
    · exact val_zero_all l h2 (by omega) x hx
theorem val_split (l : List Int) (p : Nat) (hp : p ≤ l.length) : val l = val (l.take p) + 4294967296 ^ p * val (l.drop p) := by
  have h := val_append (l.take p) (l.drop p); rw [List.take_append_drop, List.length_take, Nat.min_eq_left hp] at h; exact h
theorem rd_zero_of_lt {l : List Int} (h : Digs l) {p : Nat} (hv : val l < 4294967296 ^ p) (k : Nat) (hk : p ≤ k) : rd l (k : Int) = 0 := by
  rcases Nat.lt_or_ge k l.length with h1 | h1
  · have hd : Digs (l.drop p) := fun x hx => h x (List.mem_of_mem_drop hx)
    have e := val_split l p (by omega); have a1 := val_nonneg _ (digs_take h p); have a2 := val_nonneg _ hd
    have a3 : val (l.drop p) = 0 := by
      rcases Int.lt_or_le 0 (val (l.drop p)) with h2 | h2
      · have := Int.mul_le_mul_of_nonneg_left (show 1 ≤ val (l.drop p) by omega) (Int.le_of_lt (pw_pos p))
        omega
      · omega
    rw [rd_mem h1]; refine val_zero_all _ hd a3 _ ?_; rw [List.mem_iff_getElem]; exact ⟨k - p, by simp; omega, by rw [List.getElem_drop]; congr 1; omega⟩
  · exact rd_out h1
theorem take_zero_above {l : List Int} {p : Nat} (hz : ∀ k : Nat, p ≤ k → rd l (k : Int) = 0) : val (l.take p) = val l := by
  have h : ∀ d : Nat, val (l.take (p + d)) = val (l.take p) := by
    intro d
    induction d with
    | zero => rfl
    | succ d ih => rw [← Nat.add_assoc, val_take_next, ih, hz (p + d) (by omega)]; omega
  rw [← h l.length, List.take_of_length_le (by omega)]
theorem lt_of_zero_above {l : List Int} (h : Digs l) {p : Nat} (hz : ∀ k : Nat, p ≤ k → rd l (k : Int) = 0) : val l < 4294967296 ^ p := by
  rw [← take_zero_above hz]; have a1 := val_lt (l.take p) (digs_take h p); have a2 := pw_mono (show (l.take p).length ≤ p by rw [List.length_take]; omega)
  omega
end Go.Proofs.Ytenlaanknlafdaa.A

/- One digit of divideDigits, and all of it. Conditions: at most 900 digits each. -/
namespace Go.Proofs.Ytenlaanknlafdaa.A
set_option linter.unusedVariables false
set_option linter.unusedSimpArgs false
open Go.RowKit Go.Proofs.YtenlaanknlafdaaW.PrintWords Go.Proofs.YtenlaanknlafdaaW.PrintLast Go.Proofs.YtenlaanknlafdaaW.PrintMore
theorem wr_at1 {j n : Nat} (hn : 1 ≤ n) (hn1 : n ≤ 1000) (hj : j ≤ 2000) : wrap64 (((j + n : Nat) : Int) - 1) = ((j + (n - 1) : Nat) : Int) := by rw [w64 (by omega) (by omega)]; omega
theorem wr_at2 {j n : Nat} (hn : 2 ≤ n) (hn1 : n ≤ 1000) (hj : j ≤ 2000) : wrap64 (((j + n : Nat) : Int) - 2) = ((j + (n - 2) : Nat) : Int) := by rw [w64 (by omega) (by omega)]; omega
theorem l1_step (n j K : Nat) (x7 x11 d0 d1 v1 th : Int) (u v out : List Int) (hn : 1 ≤ n) (hn1 : n ≤ 1000) (hj : j ≤ 2000) (hv : v.length = n) (hl : j + n < u.length) (h0 : rd u ((j + n : Nat) : Int) = d0) (h1 : rd u ((j + (n - 1) : Nat) : Int) = d1) (hv1 : rd v ((n - 1 : Nat) : Int) = v1) (hth : th = if 2 ≤ n then rd u ((j + (n - 2) : Nat) : Int) else 0)
    (d00 : 0 ≤ d0) (d01 : d0 < 4294967296) (d10 : 0 ≤ d1) (d11 : d1 < 4294967296) (v10 : 1 ≤ v1) (v11 : v1 < 4294967296) (t0 : 0 ≤ th) (t1 : th < 4294967296) :
    impl_divideDigits.l1 (K + 1) n x7 u v out x11 j = impl_divideDigits.j3 K n x7 u v out x11 j ((d0 * 4294967296 + d1) / v1) ((d0 * 4294967296 + d1) % v1) th := by
  have g0 : (j : Int) ≥ 0 := by omega
  have g1 : (0 : Int) ≤ ((j + n : Nat) : Int) := by omega
  have g2 : ((j + n : Nat) : Int) < (u.length : Int) := by omega
  have g3 : (0 : Int) ≤ ((j + (n - 1) : Nat) : Int) := by omega
  have g4 : ((j + (n - 1) : Nat) : Int) < (u.length : Int) := by omega
  have g5 : (0 : Int) ≤ ((n - 1 : Nat) : Int) := by omega
  have g6 : ((n - 1 : Nat) : Int) < (v.length : Int) := by omega
  have g7 : ¬ v1 = 0 := by omega
  have b0 : 0 ≤ d0 * 4294967296 + d1 := by omega
  have b1 : d0 * 4294967296 + d1 < 18446744073709551616 := by omega
  have b2 : (d0 * 4294967296 + d1) / v1 ≤ d0 * 4294967296 + d1 := Int.ediv_le_self _ b0; have b3 : 0 ≤ (d0 * 4294967296 + d1) / v1 := Int.ediv_nonneg b0 (by omega); have b4 : (d0 * 4294967296 + d1) / v1 < 18446744073709551616 := Int.lt_of_le_of_lt b2 b1; have w1 : IntKind.u64.wrap d0 = d0 := u64_small d00 (by omega); have w2 : IntKind.u64.wrap d1 = d1 := u64_small d10 (by omega); have w3 : IntKind.u64.wrap v1 = v1 := u64_small (by omega) (by omega); have w4 : IntKind.u64.wrap (d0 * 4294967296) = d0 * 4294967296 := u64_small (by omega) (by omega); have w5 : bits .or .u64 (d0 * 4294967296) d1 = d0 * 4294967296 + d1 := or32 d0 d1 d00 d01 d10 d11; have w6 : IntKind.u64.wrap ((d0 * 4294967296 + d1) / v1) = (d0 * 4294967296 + d1) / v1 := u64_small b3 b4; have w7 : Int.tdiv (d0 * 4294967296 + d1) v1 = (d0 * 4294967296 + d1) / v1 := Int.tdiv_eq_ediv_of_nonneg b0; have w8 : Int.tmod (d0 * 4294967296 + d1) v1 = (d0 * 4294967296 + d1) % v1 := Int.tmod_eq_emod_of_nonneg b0
  conv => lhs; unfold impl_divideDigits.l1
  rw [if_pos g0, wr_add (by omega), if_pos g1, if_pos g2, wr_at1 hn hn1 hj, if_pos g3, if_pos g4, wr_pred hn (by omega), if_pos g5, if_pos g6, hv1, h0, h1, w1, w2, w3, if_neg g7, w4, w5, w7, w8, w6]
  by_cases c : 2 ≤ n
  · have c' : (n : Int) > 1 := by omega
    have g8 : (0 : Int) ≤ ((j + (n - 2) : Nat) : Int) := by omega
    have g9 : ((j + (n - 2) : Nat) : Int) < (u.length : Int) := by omega
    rw [if_pos c] at hth; have w9 : IntKind.u64.wrap th = th := u64_small t0 (by omega); rw [if_pos c', wr_at2 c hn1 hj, if_pos g8, if_pos g9, ← hth, w9]
  · have c' : ¬ (n : Int) > 1 := by omega
    rw [if_neg c] at hth; rw [if_neg c', hth]
theorem top_two {l : List Int} (hl : Digs l) (p : Nat) {d0 d1 : Int} (h0 : rd l ((p + 1 : Nat) : Int) = d0) (h1 : rd l (p : Int) = d1) (hz : ∀ k : Nat, p + 2 ≤ k → rd l (k : Int) = 0) : (d0 * 4294967296 + d1) * 4294967296 ^ p ≤ val l ∧ val l < (d0 * 4294967296 + d1 + 1) * 4294967296 ^ p := by
  have e := take_zero_above hz; rw [show p + 2 = p + 1 + 1 by omega, val_take_next, val_take_next, h0, h1] at e; have a1 := val_nonneg _ (digs_take hl p); have a2 := val_lt (l.take p) (digs_take hl p); have a3 := pw_mono (show (l.take p).length ≤ p by rw [List.length_take]; omega)
  have g : (4294967296 : Int) ^ (p + 1) * d0 = (d0 * 4294967296) * 4294967296 ^ p := by rw [Int.pow_succ]; grind
  have g2 : (d0 * 4294967296 + d1) * 4294967296 ^ p = d0 * 4294967296 * 4294967296 ^ p + 4294967296 ^ p * d1 := by grind
  have g3 : (d0 * 4294967296 + d1 + 1) * 4294967296 ^ p = (d0 * 4294967296 + d1) * 4294967296 ^ p + 4294967296 ^ p := by grind
  omega
theorem top_three {l : List Int} (hl : Digs l) (p : Nat) {d0 d1 d2 : Int} (h0 : rd l ((p + 2 : Nat) : Int) = d0) (h1 : rd l ((p + 1 : Nat) : Int) = d1) (h2 : rd l (p : Int) = d2) (hz : ∀ k : Nat, p + 3 ≤ k → rd l (k : Int) = 0) : ((d0 * 4294967296 + d1) * 4294967296 + d2) * 4294967296 ^ p ≤ val l ∧ val l < ((d0 * 4294967296 + d1) * 4294967296 + d2 + 1) * 4294967296 ^ p := by
  have e := take_zero_above hz; rw [show p + 3 = p + 1 + 1 + 1 by omega, val_take_next, val_take_next, val_take_next, h0, h1, h2] at e; have a1 := val_nonneg _ (digs_take hl p); have a2 := val_lt (l.take p) (digs_take hl p); have a3 := pw_mono (show (l.take p).length ≤ p by rw [List.length_take]; omega)
  have g : (4294967296 : Int) ^ (p + 1 + 1) * d0 = (d0 * 4294967296 * 4294967296) * 4294967296 ^ p := by rw [Int.pow_succ, Int.pow_succ]; grind
  have g' : (4294967296 : Int) ^ (p + 2) * d0 = (d0 * 4294967296 * 4294967296) * 4294967296 ^ p := g
  have g1 : (4294967296 : Int) ^ (p + 1) * d1 = (d1 * 4294967296) * 4294967296 ^ p := by rw [Int.pow_succ]; grind
  have g2 : ((d0 * 4294967296 + d1) * 4294967296 + d2) * 4294967296 ^ p = d0 * 4294967296 * 4294967296 * 4294967296 ^ p + d1 * 4294967296 * 4294967296 ^ p + 4294967296 ^ p * d2 := by grind
  have g3 : ((d0 * 4294967296 + d1) * 4294967296 + d2 + 1) * 4294967296 ^ p = ((d0 * 4294967296 + d1) * 4294967296 + d2) * 4294967296 ^ p + 4294967296 ^ p := by grind
  omega
theorem est_bounds (n j : Nat) (u v : List Int) (hu : Digs u) (hvd : Digs v) (hn : 1 ≤ n) (hv : v.length = n) (d0 d1 v1 th x11 Q : Int) (h0 : rd u ((j + n : Nat) : Int) = d0) (h1 : rd u ((j + (n - 1) : Nat) : Int) = d1) (hv1 : rd v ((n - 1 : Nat) : Int) = v1) (v10 : 2147483648 ≤ v1) (hth : th = if 2 ≤ n then rd u ((j + (n - 2) : Nat) : Int) else 0) (hsec : x11 = if 2 ≤ n then rd v ((n - 2 : Nat) : Int) else 0)
    (hz : ∀ k : Nat, j + n + 1 ≤ k → rd u (k : Int) = 0) (hA : val u < 4294967296 * (val v * 4294967296 ^ j)) (Q0 : 0 ≤ Q) (hQ1 : Q * (val v * 4294967296 ^ j) ≤ val u) (hQ2 : val u < (Q + 1) * (val v * 4294967296 ^ j)) :
    (d0 * 4294967296 + d1 < (v1 + 1) * 4294967296) ∧ Q * v1 ≤ d0 * 4294967296 + d1 ∧
    (∀ q rest, 0 ≤ q → 0 ≤ rest → q * v1 + rest = d0 * 4294967296 + d1 → rest * 4294967296 + th < q * x11 → Q < q) ∧ (∀ q rest, 0 ≤ q → q < 4294967296 → 0 ≤ rest → q * v1 + rest = d0 * 4294967296 + d1 → q * x11 ≤ rest * 4294967296 + th → q ≤ Q + 1) ∧ (∀ q rest, 0 ≤ q → q < 4294967296 → q * v1 + rest = d0 * 4294967296 + d1 → 4294967296 ≤ rest → q ≤ Q + 1) := by
  obtain ⟨m, rfl⟩ : ∃ m, n = m + 1 := ⟨n - 1, by omega⟩; rw [show j + (m + 1) = j + m + 1 by omega] at h0; rw [show m + 1 - 1 = m by omega] at h1 hv1; have A1 := top_two hu (j + m) h0 h1 (fun k hk => hz k (by omega))
  have hvz : ∀ k : Nat, m + 1 ≤ k → rd v (k : Int) = 0 := fun k hk => rd_out (by omega)
  have V1 : v1 * 4294967296 ^ m ≤ val v ∧ val v < (v1 + 1) * 4294967296 ^ m := by
    have e := take_zero_above hvz; rw [val_take_next, hv1] at e; have a1 := val_nonneg _ (digs_take hvd m); have a2 := val_lt (v.take m) (digs_take hvd m); have a3 := pw_mono (show (v.take m).length ≤ m by rw [List.length_take]; omega); have g1 : (4294967296 : Int) ^ m * v1 = v1 * 4294967296 ^ m := Int.mul_comm ..
    have g2 : (v1 + 1) * 4294967296 ^ m = v1 * 4294967296 ^ m + 4294967296 ^ m := by grind
    omega
  obtain ⟨two, htw⟩ : ∃ two, d0 * 4294967296 + d1 = two := ⟨_, rfl⟩; rw [htw] at A1 ⊢; obtain ⟨A, hAe⟩ : ∃ A, val u = A := ⟨_, rfl⟩; obtain ⟨D, hDe⟩ : ∃ D, val v * 4294967296 ^ j = D := ⟨_, rfl⟩; rw [hAe] at A1 hA hQ1 hQ2; rw [hDe] at hA hQ1 hQ2; have pj := pw_pos j
  have eP : (4294967296 : Int) ^ (j + m) = 4294967296 ^ m * 4294967296 ^ j := by rw [Int.pow_add, Int.mul_comm]
  obtain ⟨P, hPe⟩ : ∃ P, (4294967296 : Int) ^ (j + m) = P := ⟨_, rfl⟩
  have hP : 0 < P := by rw [← hPe]; exact pw_pos _
  rw [hPe] at A1
  have D1 : v1 * P ≤ D := by
    have := Int.mul_le_mul_of_nonneg_right V1.1 (Int.le_of_lt pj); rw [← hPe, eP, ← hDe, ← Int.mul_assoc]; exact this
  have D2 : D ≤ (v1 + 1) * P := by
    have := Int.mul_le_mul_of_nonneg_right (Int.le_of_lt V1.2) (Int.le_of_lt pj); rw [← hPe, eP, ← hDe, ← Int.mul_assoc]; exact this
  have Dpos : 0 < D := by
    have : 0 < v1 * P := Int.mul_pos (by omega) hP
    omega
  have fin : ∀ q : Int, (q - 1) * D ≤ A → q ≤ Q + 1 := fun q h => by
    have h2 : (q - 1) * D < (Q + 1) * D := by omega
    have := Int.lt_of_mul_lt_mul_right h2 (Int.le_of_lt Dpos)
    omega
  refine ⟨?_, kn_le hP A1.2 D1 hQ1 Q0, ?_, ?_, ?_⟩
  · have h2 : two * P < ((v1 + 1) * 4294967296) * P := by
      have g : ((v1 + 1) * 4294967296) * P = 4294967296 * ((v1 + 1) * P) := by grind
      omega
    exact Int.lt_of_mul_lt_mul_right h2 (Int.le_of_lt hP)
  · intro q rest q0 r0 he hgo
    by_cases c : 2 ≤ m + 1
    · obtain ⟨k, rfl⟩ : ∃ k, m = k + 1 := ⟨m - 1, by omega⟩; rw [if_pos c, show k + 1 + 1 - 2 = k by omega] at hth hsec; rw [← Nat.add_assoc] at h1; have A3 := top_three hu (j + k) (d0 := d0) (d1 := d1) (d2 := th) (by rw [show j + k + 2 = j + (k + 1) + 1 by omega]; exact h0) h1 hth.symm (fun p hp => hz p (by omega)); have V3 := top_two hvd k hv1 hsec.symm (fun p hp => rd_out (by omega)); rw [htw, hAe] at A3; have pk := pw_pos (j + k)
      have eK : (4294967296 : Int) ^ (j + k) = 4294967296 ^ k * 4294967296 ^ j := by rw [Int.pow_add, Int.mul_comm]
      have W1 : (v1 * 4294967296 + x11) * 4294967296 ^ (j + k) ≤ D := by
        have := Int.mul_le_mul_of_nonneg_right V3.1 (Int.le_of_lt pj); rw [eK, ← hDe, ← Int.mul_assoc]; exact this
      have h3 := kn_le pk A3.2 W1 hQ1 Q0
      rcases Int.lt_or_le Q q with h | h
      · exact h
      · have x0 : 0 ≤ x11 := by rw [hsec]; exact (rd_digs hvd _).1
        have h4 := Int.mul_le_mul_of_nonneg_right h (show 0 ≤ v1 * 4294967296 + x11 by omega)
        have h5 : q * (v1 * 4294967296 + x11) = (q * v1) * 4294967296 + q * x11 := by grind
        omega
    · rw [if_neg c] at hth hsec; subst hth; subst hsec; rw [Int.mul_zero] at hgo
      omega
  · intro q rest q0 qB r0 he hgo
    by_cases c : 2 ≤ m + 1
    · obtain ⟨k, rfl⟩ : ∃ k, m = k + 1 := ⟨m - 1, by omega⟩; rw [if_pos c, show k + 1 + 1 - 2 = k by omega] at hth hsec; rw [← Nat.add_assoc] at h1; have A3 := top_three hu (j + k) (d0 := d0) (d1 := d1) (d2 := th) (by rw [show j + k + 2 = j + (k + 1) + 1 by omega]; exact h0) h1 hth.symm (fun p hp => hz p (by omega)); have V3 := top_two hvd k hv1 hsec.symm (fun p hp => rd_out (by omega)); rw [htw, hAe] at A3; have pk := pw_pos (j + k)
      have eK : (4294967296 : Int) ^ (j + k) = 4294967296 ^ k * 4294967296 ^ j := by rw [Int.pow_add, Int.mul_comm]
      have W2 : D ≤ (v1 * 4294967296 + x11 + 1) * 4294967296 ^ (j + k) := by
        have := Int.mul_le_mul_of_nonneg_right (Int.le_of_lt V3.2) (Int.le_of_lt pj); rw [eK, ← hDe, ← Int.mul_assoc]; exact this
      have x0 : 0 ≤ x11 := by rw [hsec]; exact (rd_digs hvd _).1
      have h5 : q * (v1 * 4294967296 + x11) = (q * v1) * 4294967296 + q * x11 := by grind
      rcases Int.lt_or_le 0 q with h | h
      · exact fin q (kn_up pk (by omega) A3.1 W2 (by omega) (by omega))
      · omega
    · have m0 : m = 0 := by omega
      subst m0
      have eD : D = v1 * P := by
        have e := take_zero_above hvz; rw [val_take_next, hv1] at e; simp only [List.take_zero, val, Int.pow_zero, Int.one_mul, Int.zero_add] at e; rw [← hDe, ← e, ← hPe, Nat.add_zero]
      have h6 : q * D ≤ A := by
        have h7 : q * D = (q * v1) * P := by rw [eD]; grind
        have h8 : (q * v1) * P ≤ two * P := Int.mul_le_mul_of_nonneg_right (by omega) (Int.le_of_lt hP)
        omega
      exact fin q (by rw [Int.sub_mul]; omega)
  · intro q rest q0 qB he hr
    have h6 : q * D ≤ A := by
      have h7 : q * D ≤ q * ((v1 + 1) * P) := Int.mul_le_mul_of_nonneg_left D2 q0
      have h8 : q * ((v1 + 1) * P) = (q * v1 + q) * P := by grind
      have h9 : (q * v1 + q) * P ≤ two * P := Int.mul_le_mul_of_nonneg_right (by omega) (Int.le_of_lt hP)
      omega
    exact fin q (by rw [Int.sub_mul]; omega)
end Go.Proofs.Ytenlaanknlafdaa.A

/- All of divideDigits: the quotient and the rest. Conditions: at most 900 digits each. -/
namespace Go.Proofs.Ytenlaanknlafdaa.A
set_option linter.unusedVariables false
set_option linter.unusedSimpArgs false
open Go.RowKit Go.Proofs.YtenlaanknlafdaaW.PrintWords Go.Proofs.YtenlaanknlafdaaW.PrintLast Go.Proofs.YtenlaanknlafdaaW.PrintMore
theorem div_digit (n t j : Nat) (x11 : Int) (u v out : List Int) (hu : Digs u) (hvd : Digs v) (hn : 1 ≤ n) (hn1 : n ≤ 1000) (hj : j ≤ 2000) (hv : v.length = n) (hl : j + n < u.length) (hjo : j < out.length) (v10 : 2147483648 ≤ rd v ((n - 1 : Nat) : Int)) (hsec : x11 = if 2 ≤ n then rd v ((n - 2 : Nat) : Int) else 0) (hA : val u < val v * 4294967296 ^ (j + 1)) :
    ∃ s u' Q, (∀ K, impl_divideDigits.l1 (K + s) n t u v out x11 (j : Int) = impl_divideDigits.l1 K n t u' v (out.set j Q) x11 ((j : Int) - 1)) ∧ Digs u' ∧ u'.length = u.length ∧ val u' = val u - Q * (val v * 4294967296 ^ j) ∧ 0 ≤ Q ∧ Q < 4294967296 ∧ val u' < val v * 4294967296 ^ j := by
  obtain ⟨d0, h0⟩ : ∃ d0, rd u ((j + n : Nat) : Int) = d0 := ⟨_, rfl⟩; obtain ⟨d1, h1⟩ : ∃ d1, rd u ((j + (n - 1) : Nat) : Int) = d1 := ⟨_, rfl⟩; obtain ⟨v1, hv1⟩ : ∃ v1, rd v ((n - 1 : Nat) : Int) = v1 := ⟨_, rfl⟩; obtain ⟨th, hth⟩ : ∃ th, th = if 2 ≤ n then rd u ((j + (n - 2) : Nat) : Int) else 0 := ⟨_, rfl⟩
  have d0' : 0 ≤ d0 ∧ d0 < 4294967296 := by rw [← h0]; exact rd_digs hu _
  have d1' : 0 ≤ d1 ∧ d1 < 4294967296 := by rw [← h1]; exact rd_digs hu _
  have v1' : 0 ≤ v1 ∧ v1 < 4294967296 := by rw [← hv1]; exact rd_digs hvd _
  have th' : 0 ≤ th ∧ th < 4294967296 := by
    rw [hth]; split
    · exact rd_digs hu _
    · exact ⟨by omega, by omega⟩
  have x11' : 0 ≤ x11 ∧ x11 < 4294967296 := by
    rw [hsec]; split
    · exact rd_digs hvd _
    · exact ⟨by omega, by omega⟩
  rw [hv1] at v10
  have hA' : val u < 4294967296 * (val v * 4294967296 ^ j) := by rw [Int.pow_succ] at hA; have g : val v * (4294967296 ^ j * 4294967296) = 4294967296 * (val v * 4294967296 ^ j) := by grind
                                                                 omega
  have hz : ∀ k : Nat, j + n + 1 ≤ k → rd u (k : Int) = 0 := by
    have e := val_lt v hvd; rw [hv] at e; have h2 : val v * 4294967296 ^ (j + 1) ≤ 4294967296 ^ n * 4294967296 ^ (j + 1) := Int.mul_le_mul_of_nonneg_right (Int.le_of_lt e) (Int.le_of_lt (pw_pos _)); rw [← Int.pow_add] at h2
    have h3 : val u < 4294967296 ^ (j + n + 1) := by rw [show j + n + 1 = n + (j + 1) by omega]; omega
    exact fun k hk => rd_zero_of_lt hu h3 k hk
  obtain ⟨D, hDe⟩ : ∃ D, val v * 4294967296 ^ j = D := ⟨_, rfl⟩; have vnn := val_nonneg v hvd; have Apos := val_nonneg u hu
  have Dnn : 0 ≤ D := by rw [← hDe]; exact Int.mul_nonneg vnn (Int.le_of_lt (pw_pos j))
  have Dpos : 0 < D := by rw [hDe] at hA'; omega
  obtain ⟨Q, hQe⟩ : ∃ Q, val u / D = Q := ⟨_, rfl⟩
  have hQ0 : 0 ≤ Q := by rw [← hQe]; exact Int.ediv_nonneg Apos Dnn
  have hQ1 : Q * D ≤ val u := by rw [← hQe]; exact Int.ediv_mul_le _ (by omega)
  have hQ2 : val u < (Q + 1) * D := by rw [← hQe]; exact Int.lt_ediv_add_one_mul_self _ Dpos
  have hQB : Q < 4294967296 := by
    have h2 : Q * D < 4294967296 * D := by rw [hDe] at hA'; omega
    exact Int.lt_of_mul_lt_mul_right h2 Dnn
  obtain ⟨e1, e2, H1, H2, H3⟩ := est_bounds n j u v hu hvd hn hv d0 d1 v1 th x11 Q h0 h1 hv1 v10 hth hsec hz hA' hQ0 (by rw [hDe]; exact hQ1) (by rw [hDe]; exact hQ2); obtain ⟨two, htw⟩ : ∃ two, d0 * 4294967296 + d1 = two := ⟨_, rfl⟩; rw [htw] at e1 e2 H1 H2 H3
  have tw0 : 0 ≤ two := by omega
  have q0e : v1 * (two / v1) + two % v1 = two := Int.mul_ediv_add_emod two v1; have r00 : 0 ≤ two % v1 := Int.emod_nonneg _ (by omega); have r01 : two % v1 < v1 := Int.emod_lt_of_pos _ (by omega); have qge : Q ≤ two / v1 := Int.le_ediv_of_mul_le (by omega) e2; obtain ⟨q', a1, a2, a3, s, a4⟩ := adj_loop n t x11 j v1 th two Q u v out hn hn1 hv hv1 v10 v1'.2 x11'.1 x11'.2 th'.1 th'.2 hQ0 hQB e1 H1 H2 H3 (two / v1 - Q).toNat (two / v1) (two % v1) (by omega) r00 (by omega) (by rw [Int.mul_comm]; exact q0e); obtain ⟨u1, c, b1, b2, b3, b4, b5, b6, b7⟩ := ms_loop n j t x11 q' v out hvd hn1 hj hv (by omega) a3 n 0 u 0 (by omega) hu hl (by omega) (by omega)
  have hup : ∀ K, impl_divideDigits.l1 (K + (n + 1 + s + 2)) n t u v out x11 (j : Int) = impl_divideDigits.l3 K n t u1 v out x11 j q' c v (v.length : Int) (n : Int) := by
    intro K; rw [show K + (n + 1 + s + 2) = (K + n + 1 + s) + 1 + 1 by omega, l1_step n j _ t x11 d0 d1 v1 th u v out hn hn1 hj hv hl h0 h1 hv1 hth d0'.1 d0'.2 d1'.1 d1'.2 (by omega) v1'.2 th'.1 th'.2, htw]
    conv => lhs; unfold impl_divideDigits.j3
    rw [a4 (K + n + 1)]
    conv => lhs; unfold impl_divideDigits.j5
    exact b7 K
  simp only [List.take_zero, val, Int.sub_zero, Int.mul_zero, Int.add_zero] at b5
  have b5' : val u1 + q' * D = val u + 4294967296 ^ (j + n) * c := by
    have g : q' * 4294967296 ^ j * val v = q' * D := by rw [← hDe]; grind
    rw [show j + n = n + j by omega]; omega
  have t1e : rd u1 ((j + n : Nat) : Int) = d0 := by rw [b6 _ (Nat.le_refl _), h0]
  have zz : ∀ x : Int, ∀ k : Nat, j + n + 1 ≤ k → rd (u1.set (j + n) x) (k : Int) = 0 := fun x k hk => by rw [rd_set, if_neg (by omega), b6 k (by omega), hz k hk]
  have hP := pw_pos (j + n); have hP1 := pw_succ (j + n); obtain ⟨P, hPe⟩ : ∃ P, (4294967296 : Int) ^ (j + n) = P := ⟨_, rfl⟩; rw [hPe] at hP hP1 b5'; have du2 : Digs (u1.set (j + n) ((d0 - c) % 4294967296)) := digs_set b1 _ (by omega) (by omega)
  have v2 : val (u1.set (j + n) ((d0 - c) % 4294967296)) = val u1 + P * ((d0 - c) % 4294967296 - d0) := by rw [val_set _ _ _ (by omega), t1e, hPe]
  by_cases hc : d0 < c
  · -- the estimate is one more than the digit: added back
    have v3 : val (u1.set (j + n) ((d0 - c) % 4294967296)) = val u - q' * D + 4294967296 * P := by
      rw [v2, show (d0 - c) % 4294967296 - d0 = 4294967296 - c by omega, Int.mul_sub, Int.mul_comm P 4294967296]
      omega
    have lt2 := lt_of_zero_above du2 (zz _); rw [hP1] at lt2
    have hq : q' = Q + 1 := by
      rcases (show q' = Q ∨ q' = Q + 1 by omega) with h | h
      · rw [h] at v3; omega
      · exact h
    subst hq; obtain ⟨u3, c4, f1, f2, f3, f4, f5, f6, f7⟩ := ab_loop n j t x11 Q v (out) hvd hn1 hj hv n 0 (u1.set (j + n) ((d0 - c) % 4294967296)) 0 (by omega) du2 (by simp; omega) (by omega) (by omega); simp only [List.take_zero, val, Int.sub_zero, Int.mul_zero, Int.add_zero] at f5; rw [show n + j = j + n by omega, hPe] at f5; obtain ⟨t2, ht2⟩ : ∃ t2, rd u3 ((j + n : Nat) : Int) = t2 := ⟨_, rfl⟩
    have t2' : 0 ≤ t2 ∧ t2 < 4294967296 := by rw [← ht2]; exact rd_digs f1 _
    have f2' : u3.length = u.length := by rw [f2]; simp [b2]
    have du4 : Digs (u3.set (j + n) ((t2 + c4) % 4294967296)) := digs_set f1 _ (by omega) (by omega)
    have v4 : val (u3.set (j + n) ((t2 + c4) % 4294967296)) = val u3 + P * ((t2 + c4) % 4294967296 - t2) := by rw [val_set _ _ _ (by omega), ht2, hPe]
    have lt4 := lt_of_zero_above (p := j + n + 1) du4 (fun k hk => show rd (u3.set (j + n) ((t2 + c4) % 4294967296)) (k : Int) = 0 by rw [rd_set, if_neg (by omega), f6 k (by omega)]; exact zz _ k hk); rw [hP1] at lt4
    have eD : 4294967296 ^ j * val v = D := by rw [← hDe, Int.mul_comm]
    rw [eD] at f5
    have g6 : (Q + 1) * D = Q * D + D := by rw [Int.add_mul, Int.one_mul]
    have v5 : val (u3.set (j + n) ((t2 + c4) % 4294967296)) = val u - Q * D := by
      by_cases ho : t2 + c4 < 4294967296
      · rw [show (t2 + c4) % 4294967296 - t2 = c4 by omega] at v4
        omega
      · rw [show (t2 + c4) % 4294967296 - t2 = c4 - 4294967296 by omega, Int.mul_sub, Int.mul_comm P 4294967296] at v4
        omega
    have v6 : val (u3.set (j + n) ((t2 + c4) % 4294967296)) < D := by rw [v5]; rw [g6] at hQ2; clear v3 v2 v4 v5 b5 b5' f5 lt2 lt4; omega
    refine ⟨1 + n + 1 + (n + 1 + s + 2), u3.set (j + n) ((t2 + c4) % 4294967296), Q, fun K => ?_, du4, by simp [f2'], by rw [hDe]; exact v5, hQ0, hQB, by rw [hDe]; exact v6⟩
    have w : IntKind.u64.wrap (Q + 1 - 1) = Q := by rw [u64_small (by omega) (by omega)]; omega
    rw [← Nat.add_assoc, hup, show K + (1 + n + 1) = K + 1 + n + 1 by omega, ms_end n j _ t x11 (Q + 1) c d0 u1 v out hn1 hj hv (by omega) hjo t1e d0'.1 d0'.2 b3 b4 (by omega) a3, if_pos hc, w, f7 (K + 1), ab_end n j K t x11 Q c4 t2 u3 v out hn1 hj hv (by omega) hjo ht2 f3 f4 hQ0 hQB]
  · have v3 : val (u1.set (j + n) ((d0 - c) % 4294967296)) = val u - q' * D := by
      rw [v2, show (d0 - c) % 4294967296 - d0 = - c by omega, Int.mul_neg]
      omega
    have nn := val_nonneg _ du2
    have hq : q' = Q := by
      have h2 : q' * D < (Q + 1) * D := by omega
      have := Int.lt_of_mul_lt_mul_right h2 Dnn
      omega
    subst hq; refine ⟨1 + (n + 1 + s + 2), u1.set (j + n) ((d0 - c) % 4294967296), q', fun K => ?_, du2, by simp [b2], by rw [hDe]; exact v3, hQ0, hQB, by rw [hDe, v3, show (q' + 1) * D = q' * D + D by rw [Int.add_mul, Int.one_mul]] at *; omega⟩; rw [← Nat.add_assoc, hup, ms_end n j _ t x11 q' c d0 u1 v out hn1 hj hv (by omega) hjo t1e d0'.1 d0'.2 b3 b4 (by omega) a3, if_neg hc]
theorem div_main (n t m : Nat) (x11 e f : Int) (v : List Int) (hvd : Digs v) (hn : 1 ≤ n) (hn1 : n ≤ 1000) (hm : m ≤ 1000) (hnm : n ≤ m) (ht : t ≤ 31) (he : (2 : Int) ^ t = e) (hf : e * f = 4294967296) (hv : v.length = n) (v10 : 2147483648 ≤ rd v ((n - 1 : Nat) : Int)) (hsec : x11 = if 2 ≤ n then rd v ((n - 2 : Nat) : Int) else 0) :
    ∀ (j : Nat) (u out : List Int), j + n ≤ m + 1 → Digs u → u.length = m + 1 → Digs out → out.length = m - n + 1 → (∀ p : Nat, p < j → rd out (p : Int) = 0) → val u < val v * 4294967296 ^ j →
      ∃ s r1 r2 S r0, (∀ K, impl_divideDigits.l1 (K + s) n t u v out x11 ((j : Int) - 1) = some (r1, r2)) ∧ Digs r1 ∧ Digs r2 ∧ 0 ≤ S ∧ S < val v ∧ val u + val v * val out = S + val v * val r1 ∧ e * val r2 = S - r0 ∧ 0 ≤ r0 ∧ r0 < e := by
  intro j
  induction j with
  | zero =>
    intro u out hj hu hul ho hol hz hlt; rw [Int.pow_zero, Int.mul_one] at hlt; have hle := val_lt v hvd; rw [hv] at hle
    have hzu : ∀ k : Nat, n ≤ k → rd u (k : Int) = 0 := fun k hk => rd_zero_of_lt hu (show val u < 4294967296 ^ n by omega) k hk
    have hS := take_zero_above hzu
    have e1 : 1 ≤ e := by rw [← he]; exact two_pos t
    have htl : (u.take n).length = n := by rw [List.length_take]; omega
    obtain ⟨r', h1, h2, h3⟩ := sh_loop n t e f (u.take n) out (digs_take hu n) hn1 ht he hf htl n 0 (u.take n) (by omega) htl (digs_take hu n) (fun p _ => rfl) (by simp [val]; omega); refine ⟨n + 1 + 1, out, r', val u, rd (u.take n) ((0 : Nat) : Int) % e, fun K => ?_, ho, h2, val_nonneg u hu, hlt, rfl, by rw [h3, hS], Int.emod_nonneg _ (by omega), Int.emod_lt_of_pos _ (by omega)⟩
    have g1 : ¬ ((0 : Nat) : Int) - 1 ≥ 0 := by omega
    have g2 : (0 : Int) ≤ (n : Int) := by omega
    have g3 : (n : Int) ≤ (u.length : Int) := by omega
    rw [← Nat.add_assoc]
    conv => lhs; unfold impl_divideDigits.l1
    rw [if_neg g1, if_pos g2, if_pos g3, Int.toNat_natCast, Option.bind_some, htl]; exact h1 K
  | succ j ih =>
    intro u out hj hu hul ho hol hz hlt; obtain ⟨s, u', Q, g1, g2, g3, g4, g5, g6, g7⟩ := div_digit n t j x11 u v out hu hvd hn hn1 (by omega) hv (by omega) (by omega) v10 hsec hlt; obtain ⟨s', r1, r2, S, r0, k1, k2, k3, k4, k5, k6, k7⟩ := ih u' (out.set j Q) (by omega) g2 (by omega) (digs_set ho _ g5 g6) (by simpa using hol) (fun p hp => by rw [rd_set, if_neg (by omega), hz p (by omega)]) g7; refine ⟨s' + s, r1, r2, S, r0, fun K => ?_, k2, k3, k4, k5, ?_, k7⟩
    · rw [show ((j + 1 : Nat) : Int) - 1 = (j : Int) by omega, ← Nat.add_assoc, g1]; exact k1 K
    · rw [← k6, g4, val_set out j Q (by omega), hz j (by omega), Int.sub_zero]
      have g : val v * (val out + 4294967296 ^ j * Q) = val v * val out + Q * (val v * 4294967296 ^ j) := by grind
      omega
theorem wu32 (x : Int) (h0 : 0 ≤ x) (h1 : x < 4294967296) : IntKind.u32.wrap x = x := by
  have : IntKind.u32.wrap x = x % 4294967296 := by simp [IntKind.wrap, IntKind.bits, IntKind.signed]
  rw [this]; omega
theorem shl32 (x : Int) (i : Nat) (h : i ≤ 31) (h0 : 0 ≤ x * 2 ^ i) (h1 : x * 2 ^ i < 4294967296) : shl .u32 x (i : Int) = x * 2 ^ i := by
  unfold shl
  rw [Int.toNat_natCast, Nat.min_eq_left (by show i ≤ 32; omega)]; exact wu32 _ h0 h1
theorem by_step (xs ys : List Int) (n t K : Nat) (y : Int) (hn : 1 ≤ n) (hn1 : n ≤ 1000) (hl : ys.length = n) (ht : t ≤ 31) (hy : rd ys ((n - 1 : Nat) : Int) = y) (y0 : 0 ≤ y) (hlt : y * 2 ^ t < 2147483648) : impl_divideDigits.l0 (K + 1) xs ys n t = impl_divideDigits.l0 K xs ys n ((t + 1 : Nat) : Int) := by
  have g1 : (0 : Int) ≤ ((n - 1 : Nat) : Int) := by omega
  have g2 : ((n - 1 : Nat) : Int) < (ys.length : Int) := by omega
  have g3 : (0 : Int) ≤ (t : Int) := by omega
  have p0 : 0 ≤ y * 2 ^ t := Int.mul_nonneg y0 (by have := two_pos t; omega)
  have w : IntKind.u64.wrap ((t : Int) + 1) = ((t + 1 : Nat) : Int) := by rw [u64_small (by omega) (by omega)]; omega
  have w2 := shl32 y t ht p0 (by omega)
  conv => lhs; unfold impl_divideDigits.l0
  rw [wr_pred hn (by omega), if_pos g1, if_pos g2, if_pos g3, hy, w2, if_pos hlt, w]
theorem by_loop (xs ys : List Int) (n : Nat) (y : Int) (hn : 1 ≤ n) (hn1 : n ≤ 1000) (hl : ys.length = n) (hy : rd ys ((n - 1 : Nat) : Int) = y) (y1 : 1 ≤ y) : ∀ (d t : Nat), t + d = 31 → y * 2 ^ t < 4294967296 → ∃ t' s : Nat, t' ≤ 31 ∧ 2147483648 ≤ y * 2 ^ t' ∧ y * 2 ^ t' < 4294967296 ∧ ∀ K, impl_divideDigits.l0 (K + s) xs ys n t = impl_divideDigits.l0 K xs ys n (t' : Int) := by
  intro d
  induction d with
  | zero =>
    intro t h h1
    have e : t = 31 := by omega
    subst e; refine ⟨31, 0, Nat.le_refl _, ?_, h1, fun K => rfl⟩; have : (2 : Int) ^ 31 = 2147483648 := rfl; rw [this]; omega
  | succ d ih =>
    intro t h h1
    by_cases c : y * 2 ^ t < 2147483648
    · obtain ⟨t', s, g1, g2, g3, g4⟩ := ih (t + 1) (by omega) (by rw [Int.pow_succ, ← Int.mul_assoc]; omega); refine ⟨t', s + 1, g1, g2, g3, fun K => ?_⟩; rw [← Nat.add_assoc, by_step xs ys n t (K + s) y hn hn1 hl (by omega) hy (by omega) c]; exact g4 K
    · exact ⟨t, 0, by omega, by omega, h1, fun K => rfl⟩
theorem by_end (xs ys u w : List Int) (n t K : Nat) (y : Int) (hn : 1 ≤ n) (hn1 : n ≤ 1000) (hm : xs.length ≤ 1000) (hnm : n ≤ xs.length) (hl : ys.length = n) (ht : t ≤ 31) (hy : rd ys ((n - 1 : Nat) : Int) = y) (y0 : 0 ≤ y) (hge : 2147483648 ≤ y * 2 ^ t) (hlt : y * 2 ^ t < 4294967296) (hu : impl_doubled.f (K + 1) xs t = some u) (hw : impl_doubled.f (K + 1) ys t = some w) (hwl : w.length = n + 1) (hwd : Digs w) :
    impl_divideDigits.l0 (K + 1 + 1) xs ys n t = impl_divideDigits.l1 K n t u (w.take n) (List.replicate (xs.length - n + 1) 0) (if 2 ≤ n then rd (w.take n) ((n - 2 : Nat) : Int) else 0) (((xs.length - n + 1 : Nat) : Int) - 1) := by
  have g1 : (0 : Int) ≤ ((n - 1 : Nat) : Int) := by omega
  have g2 : ((n - 1 : Nat) : Int) < (ys.length : Int) := by omega
  have g3 : (0 : Int) ≤ (t : Int) := by omega
  have g4 : ¬ y * 2 ^ t < 2147483648 := by omega
  have g5 : (0 : Int) ≤ (n : Int) := by omega
  have g6 : (n : Int) ≤ (w.length : Int) := by omega
  have g7 : (0 : Int) ≤ ((xs.length - n + 1 : Nat) : Int) := by omega
  have g8 : xs.length - n + 1 ≤ 70368744177664 := by omega
  have g9 : ((xs.length - n : Nat) : Int) = ((xs.length - n + 1 : Nat) : Int) - 1 := by omega
  have w1 : wrap64 ((xs.length : Int) - (n : Int)) = ((xs.length - n : Nat) : Int) := wr_sub hnm (by omega); have w2 := shl32 y t ht (by omega) hlt
  conv => lhs; unfold impl_divideDigits.l0
  rw [wr_pred hn (by omega), if_pos g1, if_pos g2, if_pos g3, hy, w2, if_neg g4, hu, Option.bind_some, hw, Option.bind_some, if_pos g5, if_pos g6, Option.bind_some, w1, wr_succ (by omega), if_pos g7, Int.toNat_natCast, if_pos g8, Option.bind_some, Int.toNat_natCast]
  have hj : ∀ x : Int, impl_divideDigits.j1 (K + 1) xs n t u (w.take n) (List.replicate (xs.length - n + 1) 0) x = impl_divideDigits.l1 K n t u (w.take n) (List.replicate (xs.length - n + 1) 0) x (((xs.length - n + 1 : Nat) : Int) - 1) := by
    intro x; simp only [impl_divideDigits.j1]; rw [w1, g9]
  by_cases c : 2 ≤ n
  · have c' : (n : Int) > 1 := by omega
    have k1 : (0 : Int) ≤ ((n - 2 : Nat) : Int) := by omega
    have k2 : ((n - 2 : Nat) : Int) < ((w.take n).length : Int) := by rw [List.length_take]; omega
    have w3 : wrap64 ((n : Int) - 2) = ((n - 2 : Nat) : Int) := by rw [w64 (by omega) (by omega)]; omega
    have hr := rd_digs (digs_take hwd n) ((n - 2 : Nat) : Int); have w4 := u64_small hr.1 (by omega); rw [if_pos c', w3, if_pos k1, if_pos k2, if_pos c, hj, w4]
  · have c' : ¬ (n : Int) > 1 := by omega
    rw [if_neg c', if_neg c, hj]
theorem divideDigits_eq (xs ys : List Int) (hx : Digs xs) (hy : Can ys) (hne : ys ≠ []) (hm : xs.length ≤ 1000) (hnm : ys.length ≤ xs.length) : ∃ k r1 r2, impl_divideDigits.f k xs ys = some (r1, r2) ∧ Digs r1 ∧ Digs r2 ∧ val xs = val ys * val r1 + val r2 ∧ val r2 < val ys := by
  obtain ⟨n, hl⟩ : ∃ n, ys.length = n := ⟨_, rfl⟩; rw [hl] at hnm
  have hn : 1 ≤ n := by rw [← hl]; exact List.length_pos_iff.2 hne
  have hn1 : n ≤ 1000 := by omega
  have hyp := can_pos ys hy hne; obtain ⟨y, hyy⟩ : ∃ y, rd ys ((n - 1 : Nat) : Int) = y := ⟨_, rfl⟩; have y01 := rd_digs hy.1 ((n - 1 : Nat) : Int); rw [hyy] at y01
  have y1 : 1 ≤ y := by
    have h := hy.2 hne; rw [List.getLast_eq_getElem] at h; have h2 := rd_mem (show n - 1 < ys.length by omega); rw [hyy] at h2
    have h3 : ys[ys.length - 1] = ys[n - 1] := by congr 1; omega
    rw [h3, ← h2] at h
    omega
  obtain ⟨t, s, t31, hge, hlt, hby⟩ := by_loop xs ys n y hn hn1 hl hyy y1 31 0 rfl (by rw [Int.pow_zero]; omega); obtain ⟨u, u1, u2, u3, u4⟩ := doubled_eq xs hx hm t t31; obtain ⟨w, w1, w2, w3, w4⟩ := doubled_eq ys hy.1 (by omega) t t31; rw [hl] at w1 w3; have ep := two_pos t; have el := two_le t31; obtain ⟨e, he⟩ : ∃ e, (2 : Int) ^ t = e := ⟨_, rfl⟩; have hf : ∃ f, e * f = 4294967296 := ⟨2 ^ (32 - t), by rw [← he, ← Int.pow_add, show t + (32 - t) = 32 by omega]; rfl⟩; obtain ⟨f, hf⟩ := hf; rw [he] at u4 w4 hge hlt ep el
  have V0 : val w < 4294967296 ^ n := by
    obtain ⟨m, rfl⟩ : ∃ m, n = m + 1 := ⟨n - 1, by omega⟩; rw [show m + 1 - 1 = m by omega] at hyy; have h := val_take_succ ys m (by omega); rw [List.take_of_length_le (by omega), hyy] at h; have h2 := val_lt (ys.take m) (digs_take hy.1 m); rw [List.length_take, Nat.min_eq_left (by omega)] at h2
    have h3 : (y + 1) * e ≤ 4294967296 := by
      have h4 : y * e < f * e := by rw [Int.mul_comm f e, hf]; exact hlt
      have h5 := Int.lt_of_mul_lt_mul_right h4 (by omega); have h6 : (y + 1) * e ≤ f * e := Int.mul_le_mul_of_nonneg_right (by omega) (by omega); rw [Int.mul_comm f e, hf] at h6; exact h6
    have h7 : e * val ys < (y + 1) * e * 4294967296 ^ m := by
      have h8 : val ys < (y + 1) * 4294967296 ^ m := by
        have : (y + 1) * 4294967296 ^ m = 4294967296 ^ m * y + 4294967296 ^ m := by grind
        omega
      have h9 := Int.mul_lt_mul_of_pos_left h8 (show 0 < e by omega)
      have : e * ((y + 1) * 4294967296 ^ m) = (y + 1) * e * 4294967296 ^ m := by grind
      omega
    have h10 := Int.mul_le_mul_of_nonneg_right h3 (Int.le_of_lt (pw_pos m)); rw [w4, pw_succ]
    omega
  have V1 : val (w.take n) = val w := take_zero_above (fun k hk => rd_zero_of_lt w2 V0 k hk)
  have vl : (w.take n).length = n := by rw [List.length_take]; omega
  have vd : Digs (w.take n) := digs_take w2 n
  have v10 : 2147483648 ≤ rd (w.take n) ((n - 1 : Nat) : Int) := by
    obtain ⟨m, rfl⟩ : ∃ m, n = m + 1 := ⟨n - 1, by omega⟩; rw [show m + 1 - 1 = m by omega] at hyy ⊢; have h := val_take_succ ys m (by omega); rw [List.take_of_length_le (by omega), hyy] at h; have h0 := val_nonneg (ys.take m) (digs_take hy.1 m); obtain ⟨z, hz⟩ : ∃ z, rd (w.take (m + 1)) (m : Int) = z := ⟨_, rfl⟩; have h2 := val_take_succ (w.take (m + 1)) m (by omega); rw [List.take_of_length_le (by omega), hz, V1, w4] at h2; have h3 := val_lt ((w.take (m + 1)).take m) (digs_take vd m); rw [List.length_take, vl, Nat.min_eq_left (by omega)] at h3; rw [hz]; have p := pw_pos m
    have h4 : 4294967296 ^ m * y ≤ val ys := by omega
    have h5 := Int.mul_le_mul_of_nonneg_left h4 (show 0 ≤ e by omega)
    have h6 : e * (4294967296 ^ m * y) = (y * e) * 4294967296 ^ m := by grind
    have h7 := Int.mul_le_mul_of_nonneg_right hge (Int.le_of_lt p)
    rcases Int.lt_or_le z 2147483648 with h8 | h8
    · have h9 := Int.mul_le_mul_of_nonneg_left (show z ≤ 2147483647 by omega) (Int.le_of_lt p)
      omega
    · exact h8
  have U0 : val u < val (w.take n) * 4294967296 ^ (xs.length - n + 1) := by
    have h := val_lt xs hx; rw [V1, w4, u4]; obtain ⟨m, rfl⟩ : ∃ m, n = m + 1 := ⟨n - 1, by omega⟩; have hc := can_ge hy hne; rw [hl, show m + 1 - 1 = m by omega] at hc
    have h1 : (4294967296 : Int) ^ xs.length = 4294967296 ^ m * 4294967296 ^ (xs.length - (m + 1) + 1) := by rw [← Int.pow_add]; congr 1; omega
    have h2 := Int.mul_le_mul_of_nonneg_right hc (Int.le_of_lt (pw_pos (xs.length - (m + 1) + 1)))
    have h3 : val xs < val ys * 4294967296 ^ (xs.length - (m + 1) + 1) := by omega
    have h4 := Int.mul_lt_mul_of_pos_left h3 (show 0 < e by omega); rw [Int.mul_assoc]; exact h4
  obtain ⟨s', r1, r2, S, r0, k1, k2, k3, k4, k5, k6, k7, k8, k9⟩ := div_main n t xs.length (if 2 ≤ n then rd (w.take n) ((n - 2 : Nat) : Int) else 0) e f (w.take n) vd hn hn1 hm hnm t31 he hf vl v10 rfl (xs.length - n + 1) u (List.replicate (xs.length - n + 1) 0) (by omega) u2 u3 (digs_replicate _) (by simp) (fun p _ => by rw [rd_nat, List.getD_eq_getElem?_getD, List.getElem?_replicate]; split <;> rfl) U0; rw [val_replicate, Int.mul_zero, Int.add_zero, V1, u4, w4] at k6; rw [V1, w4] at k5
  have z1 : S = e * (val xs - val ys * val r1) := by
    have : e * (val xs - val ys * val r1) = e * val xs - e * val ys * val r1 := by grind
    omega
  have z2 : val r2 = val xs - val ys * val r1 := by
    rw [z1] at k7
    have h1 : e * (val xs - val ys * val r1 - val r2) = r0 := by
      have : e * (val xs - val ys * val r1 - val r2) = e * (val xs - val ys * val r1) - e * val r2 := by grind
      omega
    have h2 : e * (val xs - val ys * val r1 - val r2) < e * 1 := by omega
    have h3 := Int.lt_of_mul_lt_mul_left h2 (by omega)
    have h4 : e * (-1) < e * (val xs - val ys * val r1 - val r2) := by omega
    have h5 := Int.lt_of_mul_lt_mul_left h4 (by omega)
    omega
  have z3 : val r2 < val ys := by
    rw [z1, ← z2] at k5; exact Int.lt_of_mul_lt_mul_left k5 (by omega)
  refine ⟨s' + xs.length + n + 1 + 1 + s, r1, r2, ?_, k2, k3, by omega, z3⟩
  have g : ¬ (xs.length : Int) < (ys.length : Int) := by omega
  unfold impl_divideDigits.f
  rw [if_neg g, hl]; have hb := hby (s' + xs.length + n + 1 + 1); rw [show ((0 : Nat) : Int) = 0 from rfl] at hb; rw [hb, by_end xs ys u w n t (s' + xs.length + n) y hn hn1 hm hnm hl t31 hyy (by omega) (by rw [he]; exact hge) (by rw [he]; exact hlt) (by rw [show s' + xs.length + n + 1 = (s' + n) + (xs.length + 1) by omega]; exact u1 _) (by rw [show s' + xs.length + n + 1 = (s' + xs.length) + (n + 1) by omega]; exact w1 _) w3 w2]; have hk := k1 (xs.length + n); rw [show xs.length + n + s' = s' + xs.length + n by omega] at hk; exact hk
end Go.Proofs.Ytenlaanknlafdaa.A

/- Integers of any size as the program keeps them: what the methods of *exactInt tell, in terms of the integer. -/
namespace Go.Proofs.Ytenlaanknlafdaa.A
set_option linter.unusedVariables false
set_option linter.unusedSimpArgs false
open Go.RowKit Go.Proofs.YtenlaanknlafdaaW.PrintWords Go.Proofs.YtenlaanknlafdaaW.PrintLast Go.Proofs.YtenlaanknlafdaaW.PrintMore
def IsI (W : World) (g : Nat) (X : Int) : Prop := ∃ cs T v ds, W.heap[g]? = some (.cells cs T (0, 0)) ∧ T ≠ 95 ∧ 2 ≤ cs.size ∧ cs[0]? = some (.bool (decide (X < 0))) ∧ cs[1]? = some v ∧ Dg W v ds ∧ Can ds ∧ val ds = (X.natAbs : Int)
def NotD (W : World) (g : Nat) : Prop := ∀ cells, W.heap[g]? ≠ some (.cells cells 95 (0, 0))
theorem NotD.of {W : World} {g : Nat} {cs : Array Value} {T : TypeId} (hb : W.heap[g]? = some (.cells cs T (0, 0))) (hT : T ≠ 95) : NotD W g := fun cells h => by
  rw [hb] at h; injection h with h; injection h with _ h2; exact hT h2
theorem NotD.new {W : World} {g : Nat} (h : W.heap.size ≤ g) : NotD W g := fun cells hc => by have := blk_lt hc; omega
theorem Dg.keep {W W' : World} {v : Value} {ds : List Int} {g : Nat} (h : Dg W v ds) (hg : W.grownBy W' (some g)) (hn : NotD W g) : Dg W' v ds := by
  obtain ⟨A, c, rfl, hl, hC, ht, hd⟩ := h
  have hne : ∀ ad, A = some ad → ad.block ≠ g := by
    intro ad e hq; obtain ⟨cells, hc⟩ := ht ad e; rw [hq] at hc; exact hn cells hc
  refine ⟨A, c, rfl, hl, ⟨hC.1, hC.2.1, fun hp => ?_⟩, fun ad e => ?_, hd⟩
  · obtain ⟨ad, e, hcell⟩ := hC.2.2 hp; refine ⟨ad, e, fun j p hj => ?_⟩; obtain ⟨q, h1, h2, h3⟩ := hcell j p hj; refine ⟨q, h1, h2, fun i u hu => hg.cell (h3 i u hu) ?_⟩; have := hne ad e; rw [add_block]; simpa using this
  · obtain ⟨cells, hc⟩ := ht ad e; exact ⟨cells, blk_grown hc hg (by have := hne ad e; simpa using this)⟩
theorem IsI.keep {W W' : World} {a g : Nat} {X : Int} (h : IsI W a X) (hg : W.grownBy W' (some g)) (hn : NotD W g) (hne : a ≠ g) : IsI W' a X := by
  obtain ⟨cs, T, v, ds, h1, h2, h3, h4, h5, h6, h7⟩ := h; exact ⟨cs, T, v, ds, blk_grown h1 hg (by simpa using hne), h2, h3, h4, h5, h6.keep hg hn, h7⟩
theorem grown_none {W W' : World} (h : W.grownBy W' none) (g : Nat) : W.grownBy W' (some g) := ⟨h.os, h.tape, h.output, h.size, fun k hk _ => h.block k hk (by simp)⟩
def PutI (g : Nat) (cs : Array Value) (T : TypeId) (X : Int) (W : World) (e : Ending) (w' : World) : Prop :=
  e = .returned (.pointer (some ⟨g, 0, none⟩)) ∧ ∃ v ds, w'.heap[g]? = some (.cells ((cs.setIfInBounds 0 (.bool (decide (X < 0)))).setIfInBounds 1 v) T (0, 0)) ∧ Dg w' v ds ∧ Can ds ∧ val ds = (X.natAbs : Int) ∧ W.grownBy w' (some g)
theorem PutI.isI {g : Nat} {cs : Array Value} {T : TypeId} {X : Int} {W w' : World} {e : Ending} (h : PutI g cs T X W e w') (hcs : 2 ≤ cs.size) (hT : T ≠ 95) : IsI w' g X := by
  obtain ⟨_, v, ds, h1, h2, h3, h4, _⟩ := h; refine ⟨_, T, v, ds, h1, hT, by simpa using hcs, ?_, ?_, h2, h3, h4⟩
  · rw [Array.getElem?_setIfInBounds, if_neg (by decide), Array.getElem?_setIfInBounds, if_pos rfl, if_pos (by omega)]
  · rw [Array.getElem?_setIfInBounds, if_pos rfl, if_pos (by simp; omega)]
def sgn (less : Bool) (n : Int) : Int := if less then -n else n
theorem PutI.of_put {g : Nat} {cs : Array Value} {T : TypeId} {less : Bool} {l : List Int} {W w' : World} {e : Ending} (hl : Digs l) (h : impl_exactInt_put.Post g cs T less l W e w') : PutI g cs T (sgn less (val l)) W e w' := by
  obtain ⟨h0, v, ds, h1, h2, h3, h4, h5⟩ := h; have hn := val_nonneg l hl
  have e1 : decide (sgn less (val l) < 0) = (less && decide (0 < val l)) := by
    unfold sgn; cases less <;> simp <;> omega
  have e2 : ((sgn less (val l)).natAbs : Int) = val l := by unfold sgn; split <;> omega
  exact ⟨h0, v, ds, by rw [e1]; exact h1, h2, h3, by rw [e2]; exact h4, h5⟩
theorem PutI.undrew {g : Nat} {cs : Array Value} {T : TypeId} {X : Int} {W w' : World} {e : Ending} (h : PutI g cs T X W.drew e w') : PutI g cs T X W e w' := by
  obtain ⟨h0, v, ds, h1, h2, h3, h4, h5⟩ := h; exact ⟨h0, v, ds, h1, h2, h3, h4, ⟨h5.os, h5.tape, h5.output, h5.size, h5.block⟩⟩
theorem Dg.digs {W : World} {v : Value} {ds : List Int} (h : Dg W v ds) : Digs ds := h.choose_spec.choose_spec.2.2.2.2
set_option maxHeartbeats 1600000 in
set_option maxRecDepth 100000 in
theorem impl_exactInt_Set.calls (g : Nat) (cs : Array Value) (T : TypeId) (gx : Nat) (X : Int) (W : World) (hb : W.heap[g]? = some (.cells cs T (0, 0))) (hcs : 2 ≤ cs.size) (hT : T ≠ 95) (hx : IsI W gx X) :
    Calls Try.prog 96 #[.pointer (some ⟨g, 0, none⟩), .pointer (some ⟨gx, 0, none⟩)] W (PutI g cs T X W) := by
  obtain ⟨xs, S, v, ds, x1, x2, x3, x4, x5, x6, x7, x8⟩ := hx; have hc0 : W.cell? ⟨gx, 0, none⟩ = some (.bool (decide (X < 0))) := (blk_cell x1 0).trans x4; have hc1 : W.cell? ⟨gx, 1, none⟩ = some v := (blk_cell x1 1).trans x5; have hp := Aside0.mk (impl_exactInt_put.calls g cs T (decide (X < 0)) v ds W.drew hb hcs hT x6)
  have hfin := Aside0.mk (show ∀ e w', impl_exactInt_put.Post g cs T (decide (X < 0)) ds W.drew e w' → PutI g cs T X W e w' from fun e w' h => by
    have := PutI.undrew (PutI.of_put x6.digs h)
    have e : sgn (decide (X < 0)) (val ds) = X := by rw [x8]; unfold sgn; by_cases h : X < 0 <;> simp [h] <;> omega
    rw [e] at this; exact this)
  clear x1 x2 x3 x4 x5 x6 x7 x8 hb hT hcs
  go_enter Try.func96, Try.ntmps96
  go_wp2
  go_still_tail 9, (by kernel_rfl)
  change wpList _ _ _ _ _ W.drew
  go_wp2_with (first
    | (go_at_call 98; refine hp.out.mono ?_; intro e w2 hq; have he := hq.1; subst he; have HQ := Aside0.mk hq; clear hq))
  go_ret; exact hfin.out _ _ HQ.out
def NewI (X : Int) (W : World) (e : Ending) (w' : World) : Prop := ∃ g, e = .returned (.pointer (some ⟨g, 0, none⟩)) ∧ W.heap.size ≤ g ∧ IsI w' g X ∧ W.grownBy w' none
theorem grown_new {W w' : World} {o : Obj} (h : (W.alloc o).grownBy w' (some W.heap.size)) : W.grownBy w' none :=
  ⟨h.os, h.tape, h.output, by have := h.size; simp at this; omega, fun k hk _ => (h.block k (by simp; omega) (by simp; omega)).trans (Below.heap_alloc W o k hk)⟩
theorem Dg.alloc {W : World} {v : Value} {ds : List Int} (h : Dg W v ds) (o : Obj) : Dg (W.alloc o) v ds := h.below (below_alloc (Below.refl _ _) o)
theorem IsI.alloc {W : World} {g : Nat} {X : Int} (h : IsI W g X) (o : Obj) : IsI (W.alloc o) g X := by
  obtain ⟨cs, T, v, ds, h1, h2, h3, h4, h5, h6, h7⟩ := h; exact ⟨cs, T, v, ds, blk_alloc h1 o, h2, h3, h4, h5, h6.alloc o, h7⟩
set_option maxHeartbeats 1600000 in
set_option maxRecDepth 100000 in
theorem impl_exactRat_Num.calls (g : Nat) (X : Int) (W : World) (hx : IsI W g X) :
    Calls Try.prog 76 #[.pointer (some ⟨g, 0, none⟩)] W (NewI X W) := by
  have hp := Aside0.mk (impl_exactInt_Set.calls W.heap.size #[.bool false, .slice none 0 0] 61 g X (W.alloc (.cells #[.bool false, .slice none 0 0] 61 (0, 0))) (blk_new W _) (by decide) (by decide) (hx.alloc _)); have hfin := Aside0.mk (show ∀ e w', PutI W.heap.size #[.bool false, .slice none 0 0] 61 X (W.alloc (.cells #[.bool false, .slice none 0 0] 61 (0, 0))) e w' → NewI X W e w' from fun e w' h => ⟨_, h.1, Nat.le_refl _, h.isI (by decide) (by decide), grown_new h.2.choose_spec.choose_spec.2.2.2.2⟩); clear hx
  go_enter Try.func76, Try.ntmps76
  go_wp2_with (first
    | (go_at_call 96; refine hp.out.mono ?_; intro e w2 hq; have he := hq.1; subst he; have HQ := Aside0.mk hq; clear hq))
  go_ret; exact hfin.out _ _ HQ.out
def IsR (W : World) (g : Nat) (N D : Int) : Prop := ∃ v ds vb bs, W.heap[g]? = some (.cells #[.bool (decide (N < 0)), v, vb] 63 (0, 0)) ∧ Dg W v ds ∧ Can ds ∧ val ds = (N.natAbs : Int) ∧ Dg W vb bs ∧ Can bs ∧ val bs = D ∧ 1 ≤ D
theorem IsR.num {W : World} {g : Nat} {N D : Int} (h : IsR W g N D) : IsI W g N := by
  obtain ⟨v, ds, vb, bs, h1, h2, h3, h4, _⟩ := h; exact ⟨_, _, v, ds, h1, by decide, by simp, rfl, rfl, h2, h3, h4⟩
theorem IsR.keep {W W' : World} {a g : Nat} {N D : Int} (h : IsR W a N D) (hg : W.grownBy W' (some g)) (hn : NotD W g) (hne : a ≠ g) : IsR W' a N D := by
  obtain ⟨v, ds, vb, bs, h1, h2, h3, h4, h5, h6⟩ := h; exact ⟨v, ds, vb, bs, blk_grown h1 hg (by simpa using hne), h2.keep hg hn, h3, h4, h5.keep hg hn, h6⟩
set_option maxHeartbeats 1600000 in
set_option maxRecDepth 100000 in
theorem impl_exactRat_Denom.calls (g : Nat) (N D : Int) (W : World) (hx : IsR W g N D) :
    Calls Try.prog 78 #[.pointer (some ⟨g, 0, none⟩)] W (NewI D W) := by
  obtain ⟨v, ds, vb, bs, h1, h2, h3, h4, h5, h6, h7, h8⟩ := hx; have hc : W.cell? ⟨g, 2, none⟩ = some vb := (blk_cell h1 2).trans rfl; have hc' : (W.alloc (.cells #[.bool false, .slice none 0 0] 61 (0, 0))).cell? ⟨g, 2, none⟩ = some vb := (blk_cell (blk_alloc h1 _) 2).trans rfl; have hp := Aside0.mk (impl_exactInt_put.calls W.heap.size #[.bool false, .slice none 0 0] 61 false vb bs (W.alloc (.cells #[.bool false, .slice none 0 0] 61 (0, 0))) (blk_new W _) (by decide) (by decide) (h5.alloc _))
  have hfin := Aside0.mk (show ∀ e w', impl_exactInt_put.Post W.heap.size #[.bool false, .slice none 0 0] 61 false bs (W.alloc (.cells #[.bool false, .slice none 0 0] 61 (0, 0))) e w' → NewI D W e w' from fun e w' h => by
    have h' := PutI.of_put h5.digs h
    have e : sgn false (val bs) = D := by rw [h7]; rfl
    rw [e] at h'
    exact ⟨_, h'.1, Nat.le_refl _, h'.isI (by decide) (by decide), grown_new h'.2.choose_spec.choose_spec.2.2.2.2⟩)
  have hlen : ((bs.length : Int) == 0) = false := by
    rw [beq_eq_false_iff_ne]; intro h; have : bs = [] := List.eq_nil_of_length_eq_zero (by omega); rw [this] at h7; simp [val] at h7; omega
  obtain ⟨A, c, rfl, hl, -⟩ := h5; clear h1 h2 h3 h4 h6 h7 h8
  go_enter Try.func78, Try.ntmps78
  go_wp2_with (first
    | (go_at_call 98; refine hp.out.mono ?_; intro e w2 hq; have he := hq.1; subst he; have HQ := Aside0.mk hq; clear hq))
  go_ret; exact hfin.out _ _ HQ.out
theorem Dg.of_R {W : World} {base : Nat} {ok : Nat → Prop} {v : Value} {ds : List Int} (h : Kd.R (Kd.int .u32) 95 W base ok v ds) (hd : Digs ds) : Dg W v ds := by
  obtain ⟨A, c, rfl, hl, hC⟩ := Kd.R_reads h; refine ⟨A, c, rfl, hl, hC, fun ad e => ?_, hd⟩; obtain ⟨h0, inner, ho, hr⟩ := h; exact own_typed ho ad.block (by rw [e]; rfl)
theorem grown_of_below {W W' : World} (h : Below W.heap.size W W') : W.grownBy W' none := ⟨h.os, h.tape, h.output, h.size, fun k hk _ => h.block k hk⟩
theorem grown_undrew {W W' : World} {r : Option Nat} (h : W.drew.grownBy W' r) : W.grownBy W' r := ⟨h.os, h.tape, h.output, h.size, h.block⟩
theorem PutI.after {g : Nat} {cs : Array Value} {T : TypeId} {X : Int} {W W1 w' : World} {e : Ending} (hb : Below W.heap.size W W1) (h : PutI g cs T X W1 e w') : PutI g cs T X W e w' := by
  obtain ⟨h0, v, ds, h1, h2, h3, h4, h5⟩ := h; exact ⟨h0, v, ds, h1, h2, h3, h4, World.grownBy.trans (grown_none (grown_of_below hb) g) h5⟩
end Go.Proofs.Ytenlaanknlafdaa.A

/- Integers of any size: methods that make digits. Mul's loads stand next to the call of mulDigits: go_region_held3. -/
namespace Go.Proofs.Ytenlaanknlafdaa.A
set_option linter.unusedVariables false
set_option linter.unusedSimpArgs false
open Go.RowKit Go.Proofs.YtenlaanknlafdaaW.PrintWords Go.Proofs.YtenlaanknlafdaaW.PrintLast Go.Proofs.YtenlaanknlafdaaW.PrintMore
theorem sgn_mul (X Y : Int) : sgn (decide (X < 0) != decide (Y < 0)) ((X.natAbs : Int) * (Y.natAbs : Int)) = X * Y := by
  unfold sgn
  by_cases a : X < 0 <;> by_cases b : Y < 0
  · rw [show (X.natAbs : Int) = -X by omega, show (Y.natAbs : Int) = -Y by omega, Int.neg_mul_neg]; simp [a, b]
  · rw [show (X.natAbs : Int) = -X by omega, show (Y.natAbs : Int) = Y by omega, Int.neg_mul]; simp [a, b]
  · rw [show (X.natAbs : Int) = X by omega, show (Y.natAbs : Int) = -Y by omega, Int.mul_neg]; simp [a, b]
  · rw [show (X.natAbs : Int) = X by omega, show (Y.natAbs : Int) = Y by omega]; simp [a, b]
set_option maxHeartbeats 1600000 in
set_option maxRecDepth 100000 in
theorem impl_exactInt_Mul.calls (g : Nat) (cs : Array Value) (T : TypeId) (gx gy : Nat) (X Y : Int) (W : World) (hb : W.heap[g]? = some (.cells cs T (0, 0))) (hcs : 2 ≤ cs.size) (hT : T ≠ 95) (hx : IsI W gx X) (hy : IsI W gy Y) (nx : gx ≠ g) (ny : gy ≠ g)
    (hm : ∀ xs ys, Digs xs → Digs ys → val xs = (X.natAbs : Int) → val ys = (Y.natAbs : Int) → Can xs → Can ys → ∃ k r, impl_mulDigits.f k xs ys = some r ∧ Digs r ∧ val r = val xs * val ys) :
    Calls Try.prog 88 #[.pointer (some ⟨g, 0, none⟩), .pointer (some ⟨gx, 0, none⟩), .pointer (some ⟨gy, 0, none⟩)] W (PutI g cs T (X * Y) W) := by
  obtain ⟨xs, S, v, ds, x1, x2, x3, x4, x5, x6, x7, x8⟩ := hx; obtain ⟨ys, S', v', es, y1, y2, y3, y4, y5, y6, y7, y8⟩ := hy; obtain ⟨k, r, hf, hr, hv⟩ := hm ds es x6.digs y6.digs x8 y8 x7 y7; have hc0 : W.cell? ⟨gx, 0, none⟩ = some (.bool (decide (X < 0))) := (blk_cell x1 0).trans x4; have hc1 : W.cell? ⟨gx, 1, none⟩ = some v := (blk_cell x1 1).trans x5; have hd0 : W.cell? ⟨gy, 0, none⟩ = some (.bool (decide (Y < 0))) := (blk_cell y1 0).trans y4; have hd1 : W.cell? ⟨gy, 1, none⟩ = some v' := (blk_cell y1 1).trans y5; obtain ⟨A, c, rfl, al, aC, _⟩ := x6; obtain ⟨A', c', rfl, al', aC', _⟩ := y6
  have hs : sgn (decide (X < 0) != decide (Y < 0)) (val r) = X * Y := by
    rw [hv, x8, y8]; exact sgn_mul X Y
  have hq := Aside0.mk (show ∀ W1 : World, Below W.heap.size W W1 → Calls Try.prog 101 #[.slice A ds.length c, .slice A' es.length c'] W1 fun e w' => ∃ v0_ : Value, e = .returned v0_ ∧ Kd.R (Kd.int .u32) 95 w' W1.heap.size (fun _ => True) v0_ r ∧ Below W1.heap.size W1 w' from fun W1 hB => impl_mulDigits.calls k A c ds A' c' es r W1 (Kd.C_below aC hB) al (Kd.C_below aC' hB) al' hf)
  have hp := Aside0.mk (show ∀ (w1 : World) (v0 : Value), Dg w1 v0 r → Below W.heap.size W w1 → Calls Try.prog 98 #[.pointer (some ⟨g, 0, none⟩), .bool (decide (X < 0) != decide (Y < 0)), v0] w1 (PutI g cs T (X * Y) W) from fun w1 v0 hR hB => by
    refine (impl_exactInt_put.calls g cs T _ v0 r w1 (blk_below hb hB) hcs hT hR).mono fun e w' h => ?_
    have := PutI.of_put hr h; rw [hs] at this
    exact PutI.after hB this)
  have HDr := Aside0.mk hr; have HB0 := Aside0.mk (Below.refl W.heap.size W); clear x1 x2 x3 x4 x5 x7 x8 y1 y2 y3 y4 y5 y7 y8 hb hT hcs hm hr hv hf aC aC' hs
  go_enter Try.func88, Try.ntmps88
  go_wp2
  go_region_held3 (fun w' => w'.cell? ⟨gx, 0, none⟩ = some (.bool (decide (X < 0))) ∧ w'.cell? ⟨gx, 1, none⟩ = some (.slice A ds.length c) ∧ w'.cell? ⟨gy, 0, none⟩ = some (.bool (decide (Y < 0))) ∧ w'.cell? ⟨gy, 1, none⟩ = some (.slice A' es.length c'))
    (first
      | exact ⟨HQG.out.cell hc0 (by simpa using nx), HQG.out.cell hc1 (by simpa using nx), HQG.out.cell hd0 (by simpa using ny), HQG.out.cell hd1 (by simpa using ny)⟩
      | exact ⟨(HBW.out.cell (World.block_lt_of_cell? W _ hc0)).trans hc0, (HBW.out.cell (World.block_lt_of_cell? W _ hc1)).trans hc1, (HBW.out.cell (World.block_lt_of_cell? W _ hd0)).trans hd0, (HBW.out.cell (World.block_lt_of_cell? W _ hd1)).trans hd1⟩
      | exact ⟨hc0, hc1, hd0, hd1⟩
      | go_keep)
    (first
      | (go_at_call 101; refine (hq.out W.drew (below_drew (Below.refl W.heap.size W))).mono ?_; rintro e w1 ⟨v0, rfl, hR, hB⟩; have HBW := Aside0.mk (below_then (below_drew (Below.refl W.heap.size W)) (Nat.le_refl _) hB); have HD := Aside0.mk (Dg.of_R hR HDr.out); clear hR hB)
      | (go_at_call 98; refine (hp.out w1 v0 HD.out HBW.out).mono ?_; intro e w2 hq2; have he := hq2.1; subst he; have HQG := Aside0.mk hq2.2.choose_spec.choose_spec.2.2.2.2; have HQ := Aside0.mk hq2; clear hq2))
  try go_wp2
  go_ret; exact HQ.out
def sign (X : Int) : Int := if X < 0 then -1 else if 0 < X then 1 else 0
theorem can_nil {ds : List Int} (h : Can ds) : ds.length = 0 ↔ val ds = 0 := by
  constructor
  · intro h0; rw [List.eq_nil_of_length_eq_zero h0]; rfl
  · intro h0
    rcases Nat.eq_zero_or_pos ds.length with h1 | h1
    · exact h1
    · have := can_pos ds h (by intro h2; rw [h2] at h1; simp at h1); omega
set_option maxHeartbeats 1600000 in
set_option maxRecDepth 100000 in
theorem impl_exactInt_Sign.calls (g : Nat) (X : Int) (W : World) (hx : IsI W g X) :
    Calls Try.prog 100 #[.pointer (some ⟨g, 0, none⟩)] W (fun e w' => e = .returned (.int .i64 (sign X)) ∧ Drawn0 W w') := by
  obtain ⟨xs, S, v, ds, x1, x2, x3, x4, x5, x6, x7, x8⟩ := hx; have hc0 : W.cell? ⟨g, 0, none⟩ = some (.bool (decide (X < 0))) := (blk_cell x1 0).trans x4; have hc1 : W.cell? ⟨g, 1, none⟩ = some v := (blk_cell x1 1).trans x5; have hn := can_nil x7; obtain ⟨A, c, rfl, al, aC, _⟩ := x6; clear x1 x2 x3 x4 x5 x7
  by_cases a : X < 0
  · rw [decide_eq_true a] at hc0; have hs : sign X = -1 := if_pos a; rw [hs]; clear hn al aC hs x8 a
    go_enter Try.func100, Try.ntmps100
    go_wp2; go_ret; exact ⟨by first | rfl | (simp; done), by first | exact ⟨0, rfl⟩ | exact Drawn0.refl _ | exact ⟨0, by simp⟩⟩
  · rw [decide_eq_false a] at hc0
    by_cases b : 0 < X
    · have hs : sign X = 1 := by unfold sign; rw [if_neg a, if_pos b]
      have hl : decide (0 < (ds.length : Int)) = true := decide_eq_true (by omega); have hl2 : decide (0 < ds.length) = true := decide_eq_true (by omega); rw [hs]; clear hn al aC hs x8 a b
      go_enter Try.func100, Try.ntmps100
      go_wp2; go_ret; exact ⟨by first | rfl | (simp; done), by first | exact ⟨0, rfl⟩ | exact Drawn0.refl _ | exact ⟨0, by simp⟩⟩
    · have hs : sign X = 0 := by unfold sign; rw [if_neg a, if_neg b]
      have hl : decide (0 < (ds.length : Int)) = false := decide_eq_false (by omega); have hl2 : decide (0 < ds.length) = false := decide_eq_false (by omega); rw [hs]; clear hn al aC hs x8 a b
      go_enter Try.func100, Try.ntmps100
      go_wp2; go_ret; exact ⟨by first | rfl | (simp; done), by first | exact ⟨0, rfl⟩ | exact Drawn0.refl _ | exact ⟨0, by simp⟩⟩
theorem digs_two (m : Int) (h0 : 0 ≤ m) (h1 : m < 18446744073709551616) : Digs [m % 4294967296, m / 4294967296 % 4294967296] ∧ val [m % 4294967296, m / 4294967296 % 4294967296] = m := by
  refine ⟨fun x hx => ?_, ?_⟩
  · simp only [List.mem_cons, List.not_mem_nil, or_false] at hx
    rcases hx with rfl | rfl <;> omega
  · simp only [val]; omega
theorem Dg.lit2 {W : World} {b : Nat} {d0 d1 : Int} (h : W.heap[b]? = some (.cells #[.int .u32 d0, .int .u32 d1] 95 (0, 0))) (hd : Digs [d0, d1]) : Dg W (.slice (some ⟨b, 0, none⟩) 2 2) [d0, d1] := by
  refine ⟨some ⟨b, 0, none⟩, 2, rfl, Nat.le_refl _, ⟨rfl, by simp, fun _ => ⟨⟨b, 0, none⟩, rfl, fun j p hj => ?_⟩⟩, fun ad e => ?_, hd⟩
  · have hc := blk_cell h
    match j, hj with
    | 0, hj =>
      simp only [List.getElem?_cons_zero, Option.some.injEq] at hj; subst hj; refine ⟨[.int .u32 d0], rfl, rfl, fun i u hu => ?_⟩
      match i, hu with
      | 0, hu => simp at hu; subst hu; exact (hc 0).trans rfl
    | 1, hj =>
      simp only [List.getElem?_cons_succ, List.getElem?_cons_zero, Option.some.injEq] at hj; subst hj; refine ⟨[.int .u32 d1], rfl, rfl, fun i u hu => ?_⟩
      match i, hu with
      | 0, hu => simp at hu; subst hu; exact (hc 1).trans rfl
    | j + 2, hj => simp at hj
  · injection e with e; subst e; exact ⟨_, h⟩
set_option maxHeartbeats 1600000 in
set_option maxRecDepth 100000 in
theorem impl_newInt.calls (n : Int) (W : World) (h0 : -9223372036854775808 ≤ n) (h1 : n ≤ 9223372036854775807) :
    Calls Try.prog 81 #[.int .i64 n] W (NewI n W) := by
  by_cases c : n < 0
  · have hw : IntKind.u64.wrap (-IntKind.u64.wrap n) = (n.natAbs : Int) := by simp [IntKind.wrap, IntKind.bits, IntKind.signed]; omega
    have hd := digs_two (IntKind.u64.wrap (-IntKind.u64.wrap n)) (by rw [hw]; omega) (by rw [hw]; omega); have hp := Aside0.mk (impl_exactInt_put.calls W.heap.size #[.bool false, .slice none 0 0] 61 true (.slice (some ⟨W.heap.size + 1, 0, none⟩) 2 2) [IntKind.u64.wrap (-IntKind.u64.wrap n) % 4294967296, IntKind.u64.wrap (-IntKind.u64.wrap n) / 4294967296 % 4294967296] ((W.alloc (.cells #[.bool false, .slice none 0 0] 61 (0, 0))).alloc (.cells #[.int .u32 (IntKind.u64.wrap (-IntKind.u64.wrap n) % 4294967296), .int .u32 (IntKind.u64.wrap (-IntKind.u64.wrap n) / 4294967296 % 4294967296)] 95 (0, 0))) (blk_alloc (blk_new W _) _) (by decide) (by decide) (Dg.lit2 (by have := blk_new (W.alloc (.cells #[.bool false, .slice none 0 0] 61 (0, 0))) (.cells #[.int .u32 (IntKind.u64.wrap (-IntKind.u64.wrap n) % 4294967296), .int .u32 (IntKind.u64.wrap (-IntKind.u64.wrap n) / 4294967296 % 4294967296)] 95 (0, 0)); simpa using this) hd.1))
    have hfin := Aside0.mk (show ∀ e w', impl_exactInt_put.Post W.heap.size #[.bool false, .slice none 0 0] 61 true [IntKind.u64.wrap (-IntKind.u64.wrap n) % 4294967296, IntKind.u64.wrap (-IntKind.u64.wrap n) / 4294967296 % 4294967296] ((W.alloc (.cells #[.bool false, .slice none 0 0] 61 (0, 0))).alloc (.cells #[.int .u32 (IntKind.u64.wrap (-IntKind.u64.wrap n) % 4294967296), .int .u32 (IntKind.u64.wrap (-IntKind.u64.wrap n) / 4294967296 % 4294967296)] 95 (0, 0))) e w' → NewI n W e w' from fun e w' h => by
      have h' := PutI.of_put hd.1 h
      have e : sgn true (val [IntKind.u64.wrap (-IntKind.u64.wrap n) % 4294967296, IntKind.u64.wrap (-IntKind.u64.wrap n) / 4294967296 % 4294967296]) = n := by rw [hd.2, hw]; unfold sgn; simp; omega
      rw [e] at h'
      exact ⟨_, h'.1, Nat.le_refl _, h'.isI (by decide) (by decide), grown_new (World.grownBy.trans (World.grownBy_alloc _ _ _) h'.2.choose_spec.choose_spec.2.2.2.2)⟩)
    have d : decide (n < 0) = true := decide_eq_true (by omega); clear hw hd
    go_enter Try.func81, Try.ntmps81
    go_wp2_with (first
      | (go_at_call 98; refine hp.out.mono ?_; intro e w2 hq; have he := hq.1; subst he; have HQ := Aside0.mk hq; clear hq))
    go_ret; exact hfin.out _ _ HQ.out
  · have hw : n = (n.natAbs : Int) := by omega
    have hd : Digs [n % 4294967296, n / 4294967296] ∧ val [n % 4294967296, n / 4294967296] = n := by
      have := digs_two n (by omega) (by omega); rw [show n / 4294967296 % 4294967296 = n / 4294967296 by omega] at this; exact this
    have hp := Aside0.mk (impl_exactInt_put.calls W.heap.size #[.bool false, .slice none 0 0] 61 false (.slice (some ⟨W.heap.size + 1, 0, none⟩) 2 2) [n % 4294967296, n / 4294967296] ((W.alloc (.cells #[.bool false, .slice none 0 0] 61 (0, 0))).alloc (.cells #[.int .u32 (n % 4294967296), .int .u32 (n / 4294967296)] 95 (0, 0))) (blk_alloc (blk_new W _) _) (by decide) (by decide) (Dg.lit2 (by have := blk_new (W.alloc (.cells #[.bool false, .slice none 0 0] 61 (0, 0))) (.cells #[.int .u32 (n % 4294967296), .int .u32 (n / 4294967296)] 95 (0, 0)); simpa using this) hd.1))
    have hfin := Aside0.mk (show ∀ e w', impl_exactInt_put.Post W.heap.size #[.bool false, .slice none 0 0] 61 false [n % 4294967296, n / 4294967296] ((W.alloc (.cells #[.bool false, .slice none 0 0] 61 (0, 0))).alloc (.cells #[.int .u32 (n % 4294967296), .int .u32 (n / 4294967296)] 95 (0, 0))) e w' → NewI n W e w' from fun e w' h => by
      have h' := PutI.of_put hd.1 h
      have e : sgn false (val [n % 4294967296, n / 4294967296]) = n := by rw [hd.2]; unfold sgn; simp
      rw [e] at h'
      exact ⟨_, h'.1, Nat.le_refl _, h'.isI (by decide) (by decide), grown_new (World.grownBy.trans (World.grownBy_alloc _ _ _) h'.2.choose_spec.choose_spec.2.2.2.2)⟩)
    have d : decide (n < 0) = false := decide_eq_false (by omega); clear hw hd
    go_enter Try.func81, Try.ntmps81
    go_wp2_with (first
      | (go_at_call 98; refine hp.out.mono ?_; intro e w2 hq; have he := hq.1; subst he; have HQ := Aside0.mk hq; clear hq))
    go_ret; exact hfin.out _ _ HQ.out
end Go.Proofs.Ytenlaanknlafdaa.A

/- Integers of any size: sums, differences, the order. Conditions: integers of at most 100 digits of 32 bits. -/
namespace Go.Proofs.Ytenlaanknlafdaa.A
set_option linter.unusedVariables false
set_option linter.unusedSimpArgs false
open Go.RowKit Go.Proofs.YtenlaanknlafdaaW.PrintWords Go.Proofs.YtenlaanknlafdaaW.PrintLast Go.Proofs.YtenlaanknlafdaaW.PrintMore
def Fits (X : Int) : Prop := (X.natAbs : Int) < 4294967296 ^ 100
theorem fits_len {X : Int} {ds : List Int} (h : Fits X) (hc : Can ds) (hv : val ds = (X.natAbs : Int)) : ds.length ≤ 100 := can_len hc (by rw [hv]; exact h)
theorem impl_exactInt_Mul.law (g : Nat) (cs : Array Value) (T : TypeId) (gx gy : Nat) (X Y : Int) (W : World) (hb : W.heap[g]? = some (.cells cs T (0, 0))) (hcs : 2 ≤ cs.size) (hT : T ≠ 95) (hx : IsI W gx X) (hy : IsI W gy Y) (nx : gx ≠ g) (ny : gy ≠ g) (fx : Fits X) (fy : Fits Y) :
    Calls Try.prog 88 #[.pointer (some ⟨g, 0, none⟩), .pointer (some ⟨gx, 0, none⟩), .pointer (some ⟨gy, 0, none⟩)] W (PutI g cs T (X * Y) W) :=
  impl_exactInt_Mul.calls g cs T gx gy X Y W hb hcs hT hx hy nx ny (fun xs ys h1 h2 h3 h4 h5 h6 => mulDigits_eq xs ys h1 h2 (by have := fits_len fx h5 h3; omega) (by have := fits_len fy h6 h4; omega))
theorem sgn_same {X Y : Int} (h : decide (X < 0) = decide (Y < 0)) : sgn (decide (X < 0)) ((X.natAbs : Int) + (Y.natAbs : Int)) = X + Y := by
  unfold sgn
  by_cases a : X < 0 <;> by_cases b : Y < 0 <;> simp [a, b] at h ⊢ <;> omega
theorem sgn_less {X Y : Int} (h : decide (X < 0) ≠ decide (Y < 0)) (hle : (Y.natAbs : Int) ≤ (X.natAbs : Int)) : sgn (decide (X < 0)) ((X.natAbs : Int) - (Y.natAbs : Int)) = X + Y := by
  unfold sgn
  by_cases a : X < 0 <;> by_cases b : Y < 0 <;> simp [a, b] at h ⊢ <;> omega
set_option maxHeartbeats 1600000 in
set_option maxRecDepth 100000 in
theorem impl_exactInt_Add.same (g : Nat) (cs : Array Value) (T : TypeId) (gx gy : Nat) (X Y : Int) (W : World) (hb : W.heap[g]? = some (.cells cs T (0, 0))) (hcs : 2 ≤ cs.size) (hT : T ≠ 95) (hx : IsI W gx X) (hy : IsI W gy Y) (nx : gx ≠ g) (ny : gy ≠ g) (fx : Fits X) (fy : Fits Y) (hsame : decide (X < 0) = decide (Y < 0)) :
    Calls Try.prog 92 #[.pointer (some ⟨g, 0, none⟩), .pointer (some ⟨gx, 0, none⟩), .pointer (some ⟨gy, 0, none⟩)] W (PutI g cs T (X + Y) W) := by
  obtain ⟨xs, S, v, ds, x1, x2, x3, x4, x5, x6, x7, x8⟩ := hx; obtain ⟨ys, S', v', es, y1, y2, y3, y4, y5, y6, y7, y8⟩ := hy; obtain ⟨k, r, hf, hr, hv⟩ := addDigits_eq ds es x6.digs y6.digs (by have := fits_len fx x7 x8; omega) (by have := fits_len fy y7 y8; omega); have hc0 : W.cell? ⟨gx, 0, none⟩ = some (.bool (decide (X < 0))) := (blk_cell x1 0).trans x4; have hc1 : W.cell? ⟨gx, 1, none⟩ = some v := (blk_cell x1 1).trans x5; have hd0 : W.cell? ⟨gy, 0, none⟩ = some (.bool (decide (Y < 0))) := (blk_cell y1 0).trans y4; have hd1 : W.cell? ⟨gy, 1, none⟩ = some v' := (blk_cell y1 1).trans y5; obtain ⟨A, c, rfl, al, aC, _⟩ := x6; obtain ⟨A', c', rfl, al', aC', _⟩ := y6
  have hs : sgn (decide (X < 0)) (val r) = X + Y := by
    rw [hv, x8, y8]; exact sgn_same hsame
  have hq := Aside0.mk (show ∀ W1 : World, Below W.heap.size W W1 → Calls Try.prog 102 #[.slice A ds.length c, .slice A' es.length c'] W1 fun e w' => ∃ v0_ : Value, e = .returned v0_ ∧ Kd.R (Kd.int .u32) 95 w' W1.heap.size (fun _ => True) v0_ r ∧ Below W1.heap.size W1 w' from fun W1 hB => impl_addDigits.calls k A c ds A' c' es r W1 (Kd.C_below aC hB) al (Kd.C_below aC' hB) al' hf)
  have hp := Aside0.mk (show ∀ (w1 : World) (v0 : Value), Dg w1 v0 r → Below W.heap.size W w1 → Calls Try.prog 98 #[.pointer (some ⟨g, 0, none⟩), .bool (decide (X < 0)), v0] w1 (PutI g cs T (X + Y) W) from fun w1 v0 hR hB => by
    refine (impl_exactInt_put.calls g cs T _ v0 r w1 (blk_below hb hB) hcs hT hR).mono fun e w' h => ?_
    have := PutI.of_put hr h; rw [hs] at this
    exact PutI.after hB this)
  have HDr := Aside0.mk hr
  have hsm : (decide (X < 0) == decide (Y < 0)) = true := by rw [hsame]; exact beq_self_eq_true _
  clear x1 x2 x3 x4 x5 x7 x8 y1 y2 y3 y4 y5 y7 y8 hb hT hcs hr hv hf aC aC' hs fx fy hsame
  go_enter Try.func92, Try.ntmps92
  go_wp2
  go_quiet (fail)
  go_wp2
  go_region_held3 (fun w' => w'.cell? ⟨gx, 0, none⟩ = some (.bool (decide (X < 0))) ∧ w'.cell? ⟨gx, 1, none⟩ = some (.slice A ds.length c) ∧ w'.cell? ⟨gy, 1, none⟩ = some (.slice A' es.length c'))
    (first
      | exact ⟨HQG.out.cell hc0 (by simpa using nx), HQG.out.cell hc1 (by simpa using nx), HQG.out.cell hd1 (by simpa using ny)⟩
      | exact ⟨(HBW.out.cell (World.block_lt_of_cell? W _ hc0)).trans hc0, (HBW.out.cell (World.block_lt_of_cell? W _ hc1)).trans hc1, (HBW.out.cell (World.block_lt_of_cell? W _ hd1)).trans hd1⟩
      | exact ⟨hc0, hc1, hd1⟩
      | go_keep)
    (first
      | (go_at_call 102; refine (hq.out _ (below_drew (pw_below_drewN (Below.refl W.heap.size W) _))).mono ?_; rintro e w1 ⟨v0, rfl, hR, hB⟩; have HBW := Aside0.mk (below_then (below_drew (pw_below_drewN (Below.refl W.heap.size W) _)) (Nat.le_refl _) hB); have HD := Aside0.mk (Dg.of_R hR HDr.out); clear hR hB)
      | (go_at_call 98; refine (hp.out w1 v0 HD.out HBW.out).mono ?_; intro e w2 hq2; have he := hq2.1; subst he; have HQG := Aside0.mk hq2.2.choose_spec.choose_spec.2.2.2.2; have HQ := Aside0.mk hq2; clear hq2))
  try go_wp2
  go_ret; exact HQ.out
set_option maxHeartbeats 1600000 in
set_option maxRecDepth 100000 in
theorem impl_exactInt_Add.more (g : Nat) (cs : Array Value) (T : TypeId) (gx gy : Nat) (X Y : Int) (W : World) (hb : W.heap[g]? = some (.cells cs T (0, 0))) (hcs : 2 ≤ cs.size) (hT : T ≠ 95) (hx : IsI W gx X) (hy : IsI W gy Y) (nx : gx ≠ g) (ny : gy ≠ g) (fx : Fits X) (fy : Fits Y) (hdiff : decide (X < 0) ≠ decide (Y < 0)) (hle : (Y.natAbs : Int) ≤ (X.natAbs : Int)) :
    Calls Try.prog 92 #[.pointer (some ⟨g, 0, none⟩), .pointer (some ⟨gx, 0, none⟩), .pointer (some ⟨gy, 0, none⟩)] W (PutI g cs T (X + Y) W) := by
  obtain ⟨xs, S, v, ds, x1, x2, x3, x4, x5, x6, x7, x8⟩ := hx; obtain ⟨ys, S', v', es, y1, y2, y3, y4, y5, y6, y7, y8⟩ := hy; obtain ⟨k, r, hf, hr, hv⟩ := subDigits_eq ds es x6.digs y7 (by have := fits_len fx x7 x8; omega) (by rw [x8, y8]; exact hle); obtain ⟨kc, rc, hfc, hrc⟩ := compareDigits_eq ds es x7 y7 (by have := fits_len fx x7 x8; omega) (by have := fits_len fy y7 y8; omega)
  have hge : decide (0 ≤ rc) = true := by rw [x8, y8] at hrc; exact decide_eq_true (hrc.2 hle)
  have hc0 : W.cell? ⟨gx, 0, none⟩ = some (.bool (decide (X < 0))) := (blk_cell x1 0).trans x4; have hc1 : W.cell? ⟨gx, 1, none⟩ = some v := (blk_cell x1 1).trans x5; have hd0 : W.cell? ⟨gy, 0, none⟩ = some (.bool (decide (Y < 0))) := (blk_cell y1 0).trans y4; have hd1 : W.cell? ⟨gy, 1, none⟩ = some v' := (blk_cell y1 1).trans y5; obtain ⟨A, c, rfl, al, aC, _⟩ := x6; obtain ⟨A', c', rfl, al', aC', _⟩ := y6
  have hs : sgn (decide (X < 0)) (val r) = X + Y := by
    rw [hv, x8, y8]; exact sgn_less hdiff hle
  have hq := Aside0.mk (show ∀ W1 : World, Below W.heap.size W W1 → Calls Try.prog 104 #[.slice A ds.length c, .slice A' es.length c'] W1 fun e w' => ∃ v0_ : Value, e = .returned v0_ ∧ Kd.R (Kd.int .u32) 95 w' W1.heap.size (fun _ => True) v0_ r ∧ Below W1.heap.size W1 w' from fun W1 hB => impl_subDigits.calls k A c ds A' c' es r W1 (Kd.C_below aC hB) al (Kd.C_below aC' hB) al' hf); have hqc := Aside0.mk (show ∀ W1 : World, Below W.heap.size W W1 → Calls Try.prog 103 #[.slice A ds.length c, .slice A' es.length c'] W1 fun e w' => e = .returned (.int .i64 rc) ∧ Below W1.heap.size W1 w' from fun W1 hB => impl_compareDigits.calls kc A c ds A' c' es rc W1 (Kd.C_below aC hB) al (Kd.C_below aC' hB) al' hfc)
  have hp := Aside0.mk (show ∀ (w1 : World) (v0 : Value), Dg w1 v0 r → Below W.heap.size W w1 → Calls Try.prog 98 #[.pointer (some ⟨g, 0, none⟩), .bool (decide (X < 0)), v0] w1 (PutI g cs T (X + Y) W) from fun w1 v0 hR hB => by
    refine (impl_exactInt_put.calls g cs T _ v0 r w1 (blk_below hb hB) hcs hT hR).mono fun e w' h => ?_
    have := PutI.of_put hr h; rw [hs] at this
    exact PutI.after hB this)
  have HDr := Aside0.mk hr; have hsm : (decide (X < 0) == decide (Y < 0)) = false := beq_eq_false_iff_ne.2 hdiff; clear x1 x2 x3 x4 x5 x7 x8 y1 y2 y3 y4 y5 y7 y8 hb hT hcs hr hv hf hfc hrc aC aC' hs fx fy hdiff hle
  go_enter Try.func92, Try.ntmps92
  go_wp2
  go_quiet (fail)
  go_wp2
  go_region_held3 (fun w' => w'.cell? ⟨gx, 1, none⟩ = some (.slice A ds.length c) ∧ w'.cell? ⟨gy, 1, none⟩ = some (.slice A' es.length c'))
    (first
      | exact ⟨(HBC.out.cell (World.block_lt_of_cell? W _ hc1)).trans hc1, (HBC.out.cell (World.block_lt_of_cell? W _ hd1)).trans hd1⟩
      | exact ⟨hc1, hd1⟩
      | go_keep)
    (first
      | (go_at_call 103; refine (hqc.out _ (below_drew (pw_below_drewN (Below.refl W.heap.size W) _))).mono ?_; rintro e w0 ⟨rfl, hB⟩; have HBC := Aside0.mk (below_then (below_drew (pw_below_drewN (Below.refl W.heap.size W) _)) (Nat.le_refl _) hB); clear hB))
  have hc0' := (HBC.out.cell (World.block_lt_of_cell? W _ hc0)).trans hc0; have hc1' := (HBC.out.cell (World.block_lt_of_cell? W _ hc1)).trans hc1; have hd1' := (HBC.out.cell (World.block_lt_of_cell? W _ hd1)).trans hd1; go_wp2
  go_region_held3 (fun w' => w'.cell? ⟨gx, 0, none⟩ = some (.bool (decide (X < 0))) ∧ w'.cell? ⟨gx, 1, none⟩ = some (.slice A ds.length c) ∧ w'.cell? ⟨gy, 1, none⟩ = some (.slice A' es.length c'))
    (first
      | exact ⟨HQG.out.cell hc0 (by simpa using nx), HQG.out.cell hc1 (by simpa using nx), HQG.out.cell hd1 (by simpa using ny)⟩
      | exact ⟨(HBW.out.cell (World.block_lt_of_cell? W _ hc0)).trans hc0, (HBW.out.cell (World.block_lt_of_cell? W _ hc1)).trans hc1, (HBW.out.cell (World.block_lt_of_cell? W _ hd1)).trans hd1⟩
      | exact ⟨hc0', hc1', hd1'⟩
      | go_keep)
    (first
      | (go_at_call 104; refine (hq.out _ (below_drew HBC.out)).mono ?_; rintro e w1 ⟨v0, rfl, hR, hB⟩; have HBW := Aside0.mk (below_step (below_drew HBC.out) hB); have HD := Aside0.mk (Dg.of_R hR HDr.out); clear hR hB)
      | (go_at_call 98; refine (hp.out w1 v0 HD.out HBW.out).mono ?_; intro e w2 hq2; have he := hq2.1; subst he; have HQG := Aside0.mk hq2.2.choose_spec.choose_spec.2.2.2.2; have HQ := Aside0.mk hq2; clear hq2))
  try go_wp2
  go_ret; exact HQ.out
set_option maxHeartbeats 1600000 in
set_option maxRecDepth 100000 in
theorem impl_exactInt_Add.less (g : Nat) (cs : Array Value) (T : TypeId) (gx gy : Nat) (X Y : Int) (W : World) (hb : W.heap[g]? = some (.cells cs T (0, 0))) (hcs : 2 ≤ cs.size) (hT : T ≠ 95) (hx : IsI W gx X) (hy : IsI W gy Y) (nx : gx ≠ g) (ny : gy ≠ g) (fx : Fits X) (fy : Fits Y) (hdiff : decide (X < 0) ≠ decide (Y < 0)) (hle : (X.natAbs : Int) < (Y.natAbs : Int)) :
    Calls Try.prog 92 #[.pointer (some ⟨g, 0, none⟩), .pointer (some ⟨gx, 0, none⟩), .pointer (some ⟨gy, 0, none⟩)] W (PutI g cs T (X + Y) W) := by
  obtain ⟨xs, S, v, ds, x1, x2, x3, x4, x5, x6, x7, x8⟩ := hx; obtain ⟨ys, S', v', es, y1, y2, y3, y4, y5, y6, y7, y8⟩ := hy; obtain ⟨k, r, hf, hr, hv⟩ := subDigits_eq es ds y6.digs x7 (by have := fits_len fy y7 y8; omega) (by rw [x8, y8]; exact Int.le_of_lt hle); obtain ⟨kc, rc, hfc, hrc⟩ := compareDigits_eq ds es x7 y7 (by have := fits_len fx x7 x8; omega) (by have := fits_len fy y7 y8; omega)
  have hge : decide (0 ≤ rc) = false := by rw [x8, y8] at hrc; exact decide_eq_false (fun h => absurd (hrc.1 h) (by omega))
  have hc0 : W.cell? ⟨gx, 0, none⟩ = some (.bool (decide (X < 0))) := (blk_cell x1 0).trans x4; have hc1 : W.cell? ⟨gx, 1, none⟩ = some v := (blk_cell x1 1).trans x5; have hd0 : W.cell? ⟨gy, 0, none⟩ = some (.bool (decide (Y < 0))) := (blk_cell y1 0).trans y4; have hd1 : W.cell? ⟨gy, 1, none⟩ = some v' := (blk_cell y1 1).trans y5; obtain ⟨A, c, rfl, al, aC, _⟩ := x6; obtain ⟨A', c', rfl, al', aC', _⟩ := y6
  have hs : sgn (decide (Y < 0)) (val r) = X + Y := by
    rw [hv, x8, y8, Int.add_comm X Y]; exact sgn_less (fun h => hdiff h.symm) (Int.le_of_lt hle)
  have hq := Aside0.mk (show ∀ W1 : World, Below W.heap.size W W1 → Calls Try.prog 104 #[.slice A' es.length c', .slice A ds.length c] W1 fun e w' => ∃ v0_ : Value, e = .returned v0_ ∧ Kd.R (Kd.int .u32) 95 w' W1.heap.size (fun _ => True) v0_ r ∧ Below W1.heap.size W1 w' from fun W1 hB => impl_subDigits.calls k A' c' es A c ds r W1 (Kd.C_below aC' hB) al' (Kd.C_below aC hB) al hf); have hqc := Aside0.mk (show ∀ W1 : World, Below W.heap.size W W1 → Calls Try.prog 103 #[.slice A ds.length c, .slice A' es.length c'] W1 fun e w' => e = .returned (.int .i64 rc) ∧ Below W1.heap.size W1 w' from fun W1 hB => impl_compareDigits.calls kc A c ds A' c' es rc W1 (Kd.C_below aC hB) al (Kd.C_below aC' hB) al' hfc)
  have hp := Aside0.mk (show ∀ (w1 : World) (v0 : Value), Dg w1 v0 r → Below W.heap.size W w1 → Calls Try.prog 98 #[.pointer (some ⟨g, 0, none⟩), .bool (decide (Y < 0)), v0] w1 (PutI g cs T (X + Y) W) from fun w1 v0 hR hB => by
    refine (impl_exactInt_put.calls g cs T _ v0 r w1 (blk_below hb hB) hcs hT hR).mono fun e w' h => ?_
    have := PutI.of_put hr h; rw [hs] at this
    exact PutI.after hB this)
  have HDr := Aside0.mk hr; have hsm : (decide (X < 0) == decide (Y < 0)) = false := beq_eq_false_iff_ne.2 hdiff; clear x1 x2 x3 x4 x5 x7 x8 y1 y2 y3 y4 y5 y7 y8 hb hT hcs hr hv hf hfc hrc aC aC' hs fx fy hdiff hle
  go_enter Try.func92, Try.ntmps92
  go_wp2
  go_quiet (fail)
  go_wp2
  go_region_held3 (fun w' => w'.cell? ⟨gx, 1, none⟩ = some (.slice A ds.length c) ∧ w'.cell? ⟨gy, 1, none⟩ = some (.slice A' es.length c'))
    (first
      | exact ⟨(HBC.out.cell (World.block_lt_of_cell? W _ hc1)).trans hc1, (HBC.out.cell (World.block_lt_of_cell? W _ hd1)).trans hd1⟩
      | exact ⟨hc1, hd1⟩
      | go_keep)
    (first
      | (go_at_call 103; refine (hqc.out _ (below_drew (pw_below_drewN (Below.refl W.heap.size W) _))).mono ?_; rintro e w0 ⟨rfl, hB⟩; have HBC := Aside0.mk (below_then (below_drew (pw_below_drewN (Below.refl W.heap.size W) _)) (Nat.le_refl _) hB); clear hB))
  have hc0' := (HBC.out.cell (World.block_lt_of_cell? W _ hd0)).trans hd0; have hc1' := (HBC.out.cell (World.block_lt_of_cell? W _ hc1)).trans hc1; have hd1' := (HBC.out.cell (World.block_lt_of_cell? W _ hd1)).trans hd1; go_wp2
  go_region_held3 (fun w' => w'.cell? ⟨gy, 0, none⟩ = some (.bool (decide (Y < 0))) ∧ w'.cell? ⟨gx, 1, none⟩ = some (.slice A ds.length c) ∧ w'.cell? ⟨gy, 1, none⟩ = some (.slice A' es.length c'))
    (first
      | exact ⟨HQG.out.cell hd0 (by simpa using ny), HQG.out.cell hc1 (by simpa using nx), HQG.out.cell hd1 (by simpa using ny)⟩
      | exact ⟨(HBW.out.cell (World.block_lt_of_cell? W _ hd0)).trans hd0, (HBW.out.cell (World.block_lt_of_cell? W _ hc1)).trans hc1, (HBW.out.cell (World.block_lt_of_cell? W _ hd1)).trans hd1⟩
      | exact ⟨hc0', hc1', hd1'⟩
      | go_keep)
    (first
      | (go_at_call 104; refine (hq.out _ (below_drew HBC.out)).mono ?_; rintro e w1 ⟨v0, rfl, hR, hB⟩; have HBW := Aside0.mk (below_step (below_drew HBC.out) hB); have HD := Aside0.mk (Dg.of_R hR HDr.out); clear hR hB)
      | (go_at_call 98; refine (hp.out w1 v0 HD.out HBW.out).mono ?_; intro e w2 hq2; have he := hq2.1; subst he; have HQG := Aside0.mk hq2.2.choose_spec.choose_spec.2.2.2.2; have HQ := Aside0.mk hq2; clear hq2))
  try go_wp2
  go_ret; exact HQ.out
theorem impl_exactInt_Add.law (g : Nat) (cs : Array Value) (T : TypeId) (gx gy : Nat) (X Y : Int) (W : World) (hb : W.heap[g]? = some (.cells cs T (0, 0))) (hcs : 2 ≤ cs.size) (hT : T ≠ 95) (hx : IsI W gx X) (hy : IsI W gy Y) (nx : gx ≠ g) (ny : gy ≠ g) (fx : Fits X) (fy : Fits Y) :
    Calls Try.prog 92 #[.pointer (some ⟨g, 0, none⟩), .pointer (some ⟨gx, 0, none⟩), .pointer (some ⟨gy, 0, none⟩)] W (PutI g cs T (X + Y) W) := by
  by_cases h : decide (X < 0) = decide (Y < 0)
  · exact impl_exactInt_Add.same g cs T gx gy X Y W hb hcs hT hx hy nx ny fx fy h
  · rcases Int.lt_or_le (X.natAbs : Int) (Y.natAbs : Int) with h2 | h2
    · exact impl_exactInt_Add.less g cs T gx gy X Y W hb hcs hT hx hy nx ny fx fy h h2
    · exact impl_exactInt_Add.more g cs T gx gy X Y W hb hcs hT hx hy nx ny fx fy h h2
end Go.Proofs.Ytenlaanknlafdaa.A

/- Integers of any size: differences and the order. Conditions: integers of at most 100 digits of 32 bits. -/
namespace Go.Proofs.Ytenlaanknlafdaa.A
set_option linter.unusedVariables false
set_option linter.unusedSimpArgs false
open Go.RowKit Go.Proofs.YtenlaanknlafdaaW.PrintWords Go.Proofs.YtenlaanknlafdaaW.PrintLast Go.Proofs.YtenlaanknlafdaaW.PrintMore
theorem sgn_neg (Y : Int) : sgn (!decide (Y < 0)) (Y.natAbs : Int) = -Y := by
  unfold sgn
  by_cases a : Y < 0 <;> simp [a] <;> omega
theorem fits_neg {Y : Int} (h : Fits Y) : Fits (-Y) := by unfold Fits at *; rw [Int.natAbs_neg]; exact h
abbrev zeroI : Obj := .cells #[.bool false, .slice none 0 0] 61 (0, 0)
theorem IsI.lt {W : World} {g : Nat} {X : Int} (h : IsI W g X) : g < W.heap.size := by obtain ⟨cs, T, v, ds, h1, _⟩ := h; exact blk_lt h1
theorem PutI.grown {g : Nat} {cs : Array Value} {T : TypeId} {X : Int} {W w' : World} {e : Ending} (h : PutI g cs T X W e w') : W.grownBy w' (some g) := h.2.choose_spec.choose_spec.2.2.2.2
theorem below_new {W w1 : World} {o : Obj} (h : (W.alloc o).grownBy w1 (some W.heap.size)) : Below W.heap.size W w1 :=
  pw_below_grown (below_alloc (Below.refl W.heap.size W) o) (some W.heap.size) (by simp) h (fun k hk => by injection hk with hk; omega)
set_option maxHeartbeats 1600000 in
set_option maxRecDepth 100000 in
theorem impl_exactInt_Sub.law (g : Nat) (cs : Array Value) (T : TypeId) (gx gy : Nat) (X Y : Int) (W : World) (hb : W.heap[g]? = some (.cells cs T (0, 0))) (hcs : 2 ≤ cs.size) (hT : T ≠ 95) (hx : IsI W gx X) (hy : IsI W gy Y) (nx : gx ≠ g) (ny : gy ≠ g) (fx : Fits X) (fy : Fits Y) :
    Calls Try.prog 108 #[.pointer (some ⟨g, 0, none⟩), .pointer (some ⟨gx, 0, none⟩), .pointer (some ⟨gy, 0, none⟩)] W (PutI g cs T (X - Y) W) := by
  obtain ⟨ys, S', v', es, y1, y2, y3, y4, y5, y6, y7, y8⟩ := hy; have hd0 : W.cell? ⟨gy, 0, none⟩ = some (.bool (decide (Y < 0))) := (blk_cell y1 0).trans y4; have hd1 : W.cell? ⟨gy, 1, none⟩ = some v' := (blk_cell y1 1).trans y5; have hd0' : (W.drew.alloc zeroI).cell? ⟨gy, 0, none⟩ = some (.bool (decide (Y < 0))) := (blk_cell (blk_alloc (w := W.drew) y1 _) 0).trans y4; have hd1' : (W.drew.alloc zeroI).cell? ⟨gy, 1, none⟩ = some v' := (blk_cell (blk_alloc (w := W.drew) y1 _) 1).trans y5
  have hgn : ∀ {w1 : World} {e : Ending}, PutI W.heap.size #[.bool false, .slice none 0 0] 61 (-Y) (W.drew.alloc zeroI) e w1 → Below W.heap.size W w1 := fun h => below_then (below_drew (Below.refl W.heap.size W)) (Nat.le_refl _) (below_new h.grown)
  have hp := Aside0.mk (show Calls Try.prog 98 #[.pointer (some ⟨W.heap.size, 0, none⟩), .bool (!decide (Y < 0)), v'] (W.drew.alloc zeroI) (PutI W.heap.size #[.bool false, .slice none 0 0] 61 (-Y) (W.drew.alloc zeroI)) from by
    refine (impl_exactInt_put.calls W.heap.size #[.bool false, .slice none 0 0] 61 (!decide (Y < 0)) v' es (W.drew.alloc zeroI) (blk_new W.drew _) (by decide) (by decide) (Dg.alloc (W := W.drew) y6 _)).mono fun e w' h => ?_
    have := PutI.of_put y6.digs h; rw [y8, sgn_neg] at this
    exact this)
  have ha := Aside0.mk (show ∀ (w1 : World) (e : Ending), PutI W.heap.size #[.bool false, .slice none 0 0] 61 (-Y) (W.drew.alloc zeroI) e w1 → Calls Try.prog 92 #[.pointer (some ⟨g, 0, none⟩), .pointer (some ⟨gx, 0, none⟩), .pointer (some ⟨W.heap.size, 0, none⟩)] w1 (PutI g cs T (X - Y) W) from fun w1 e h => by
    have hB := hgn h; have hX : IsI w1 gx X := (IsI.alloc (W := W.drew) hx zeroI).keep h.grown (NotD.of (blk_new W.drew _) (by decide)) (by have := hx.lt; show gx ≠ W.heap.size; omega); have := impl_exactInt_Add.law g cs T gx W.heap.size X (-Y) w1 (blk_below hb hB) hcs hT hX (h.isI (by decide) (by decide)) nx (by have := blk_lt hb; omega) fx (fits_neg fy); rw [← Int.sub_eq_add_neg] at this
    exact this.mono fun e' w' h' => PutI.after hB h')
  have lt0 := World.block_lt_of_cell? W _ hd0
  have hnn : gy ≠ W.heap.size := by have := blk_lt y1; omega
  clear y1 y2 y3 y4 y5 y6 y7 y8 hb hT hcs hx fx fy
  go_enter Try.func108, Try.ntmps108
  go_wp2
  go_region_held3 (fun w' => w'.cell? ⟨gy, 0, none⟩ = some (.bool (decide (Y < 0))) ∧ w'.cell? ⟨gy, 1, none⟩ = some v')
    (first
      | exact ⟨HQG.out.cell hd0 (by simpa using ny), HQG.out.cell hd1 (by simpa using ny)⟩
      | exact ⟨hd0, hd1⟩
      | exact ⟨hd0', hd1'⟩
      | exact ⟨(HBW.out.cell (World.block_lt_of_cell? W _ hd0)).trans hd0, (HBW.out.cell (World.block_lt_of_cell? W _ hd1)).trans hd1⟩
      | go_keep)
    (first
      | (go_at_call 98; refine hp.out.mono ?_; intro e w1 hq1; have he := hq1.1; subst he; have HBW := Aside0.mk (hgn hq1); have HP1 := Aside0.mk hq1; clear hq1)
      | (go_at_call 92; refine (ha.out w1 _ HP1.out).mono ?_; intro e w2 hq2; have he := hq2.1; subst he; have HQG := Aside0.mk hq2.grown; have HQ := Aside0.mk hq2; clear hq2))
  try go_wp2
  go_ret; exact HQ.out
set_option maxHeartbeats 1600000 in
set_option maxRecDepth 100000 in
theorem impl_exactInt_Cmp.law (gx gy : Nat) (X Y : Int) (W : World) (hx : IsI W gx X) (hy : IsI W gy Y) (fx : Fits X) (fy : Fits Y) :
    Calls Try.prog 97 #[.pointer (some ⟨gx, 0, none⟩), .pointer (some ⟨gy, 0, none⟩)] W (fun e w' => e = .returned (.int .i64 (sign (X - Y))) ∧ Below W.heap.size W w') := by
  have hs := Aside0.mk (impl_exactInt_Sub.law W.heap.size #[.bool false, .slice none 0 0] 61 gx gy X Y (W.alloc zeroI) (blk_new W _) (by decide) (by decide) (hx.alloc _) (hy.alloc _) (by have := hx.lt; omega) (by have := hy.lt; omega) fx fy)
  have hg := Aside0.mk (show ∀ (w1 : World) (e : Ending), PutI W.heap.size #[.bool false, .slice none 0 0] 61 (X - Y) (W.alloc zeroI) e w1 → Calls Try.prog 100 #[.pointer (some ⟨W.heap.size, 0, none⟩)] w1 (fun e' w' => e' = .returned (.int .i64 (sign (X - Y))) ∧ Below W.heap.size W w') from fun w1 e h =>
    (impl_exactInt_Sign.calls W.heap.size (X - Y) w1 (h.isI (by decide) (by decide))).mono fun e' w' h' => ⟨h'.1, by
      obtain ⟨n, hn⟩ := h'.2; rw [hn]
      exact pw_below_drewN (below_new h.grown) n⟩)
  clear hx hy fx fy
  go_enter Try.func97, Try.ntmps97
  go_wp2_with (first
    | (go_at_call 108; refine hs.out.mono ?_; intro e w1 hq1; have he := hq1.1; subst he; have HP1 := Aside0.mk hq1; clear hq1)
    | (go_at_call 100; refine (hg.out w1 _ HP1.out).mono ?_; rintro e w2 ⟨rfl, hB⟩; have HB2 := Aside0.mk hB; clear hB))
  go_ret; exact ⟨rfl, HB2.out⟩
end Go.Proofs.Ytenlaanknlafdaa.A

/- Integers of any size: what is read as 64 bits. Conditions: integers of at most 100 digits of 32 bits. -/
namespace Go.Proofs.Ytenlaanknlafdaa.A
set_option linter.unusedVariables false
set_option linter.unusedSimpArgs false
open Go.RowKit Go.Proofs.YtenlaanknlafdaaW.PrintWords Go.Proofs.YtenlaanknlafdaaW.PrintLast Go.Proofs.YtenlaanknlafdaaW.PrintMore
theorem int64_step (ds : List Int) (i : Nat) (hd : Digs ds) (h : i < 2) (hi : i < ds.length) : bits BinOp.or IntKind.u64 (val (List.take 2 (List.take i ds))) (IntKind.u64.wrap (rd ds (i : Int) * 2 ^ (32 * i))) = val (List.take 2 (List.take (i + 1) ds)) := by
  have hx := rd_digs hd (i : Int); rw [List.take_take, List.take_take, Nat.min_eq_right (by omega), Nat.min_eq_right (by omega), val_take_succ ds i hi]
  rcases (show i = 0 ∨ i = 1 by omega) with rfl | rfl
  · have e : (2 : Int) ^ (32 * 0) = 1 := rfl; have hw : IntKind.u64.wrap (rd ds ((0 : Nat) : Int)) = rd ds ((0 : Nat) : Int) := u64_small (by omega) (by omega); have ho := or_low 0 (rd ds ((0 : Nat) : Int)) 0 (by omega) (by rw [Int.pow_zero]; omega) hx.1 (by rw [Int.pow_zero]; omega) (by omega); rw [Int.pow_zero, Int.mul_one] at ho; rw [e, Int.mul_one, hw, Int.pow_zero, Int.one_mul]; simp only [List.take_zero, val]; rw [ho]; omega
  · have e : (2 : Int) ^ (32 * 1) = 2 ^ 32 := rfl; have e2 : (2 : Int) ^ 32 = 4294967296 := rfl; have hw : IntKind.u64.wrap (rd ds ((1 : Nat) : Int) * 2 ^ 32) = rd ds ((1 : Nat) : Int) * 2 ^ 32 := u64_small (by rw [e2]; omega) (by rw [e2]; omega); have a1 := val_lt (ds.take 1) (digs_take hd 1); have a2 := val_nonneg (ds.take 1) (digs_take hd 1); rw [List.length_take, Nat.min_eq_left (by omega), Int.pow_one] at a1; have := or_low (val (ds.take 1)) (rd ds ((1 : Nat) : Int)) 32 a2 (by rw [e2]; exact a1) hx.1 (by rw [e2]; omega) (by omega); rw [e, hw, this, e2, Int.pow_one]
    omega
theorem int64_end (ds : List Int) (X : Int) (hd : Digs ds) (hv : val ds = (X.natAbs : Int)) : val (ds.take 2) = (X.natAbs : Int) % 18446744073709551616 := by
  rcases Nat.lt_or_ge ds.length 2 with h | h
  · have a1 := val_lt ds hd; have a2 := pw_mono (show ds.length ≤ 1 by omega); rw [Int.pow_one] at a2; rw [List.take_of_length_le (by omega), hv]
    omega
  · have e := val_split ds 2 h; have a1 := val_lt (ds.take 2) (digs_take hd 2); have a2 := val_nonneg (ds.take 2) (digs_take hd 2); rw [List.length_take, Nat.min_eq_left h] at a1; have e2 : (4294967296 : Int) ^ 2 = 18446744073709551616 := rfl; rw [e2] at a1 e
    omega
set_option maxHeartbeats 1600000 in
set_option maxRecDepth 100000 in
theorem impl_exactInt_Int64.law (g : Nat) (X : Int) (W : World) (hx : IsI W g X) (fx : Fits X) :
    Calls Try.prog 79 #[.pointer (some ⟨g, 0, none⟩)] W (fun e w' => e = .returned (.int .i64 (wrap64 X)) ∧ Drawn0 W w') := by
  obtain ⟨xs, S, v, ds, x1, x2, x3, x4, x5, x6, x7, x8⟩ := hx; have hc0 : W.cell? ⟨g, 0, none⟩ = some (.bool (decide (X < 0))) := (blk_cell x1 0).trans x4; have hc1 : W.cell? ⟨g, 1, none⟩ = some v := (blk_cell x1 1).trans x5; have hlen := fits_len fx x7 x8; have HD := Aside0.mk x6.digs; have HV := Aside0.mk x8; obtain ⟨A, c, rfl, al, aC, _⟩ := x6; have HC := Aside0.mk aC; clear x1 x2 x3 x4 x5 x7 x8 aC fx
  go_enter Try.func79, Try.ntmps79
  go_wp2
  go_loop [3, 11] (fun v3 v11 => ∃ i : Nat, i ≤ ds.length ∧ v11 = .int .i64 (i : Int) ∧ v3 = .int .u64 (val ((ds.take i).take 2))) (fun _ v11 => ds.length - (match v11 with | .int _ i => i.toNat | _ => 0))
  case atStart => exact ⟨0, Nat.zero_le _, rfl, by simp [val]⟩
  case round =>
    obtain ⟨i, hi, rfl, rfl⟩ := hrel
    by_cases c1 : i < ds.length
    · have c1' : decide ((i : Int) < (ds.length : Int)) = true := decide_eq_true (by omega); obtain ⟨ad, rfl, hx⟩ := Kd.at_int HC.out (i : Int) (by omega) (by omega); rw [Int.toNat_natCast] at hx; have hd := rd_digs HD.out (i : Int)
      by_cases c2 : i < 2
      · have c2' : decide ((i : Int) < 2) = true := decide_eq_true (by omega); go_wp2; refine ⟨⟨i + 1, by omega, by simp, ?_⟩, by simp; omega⟩; rw [int64_step ds i HD.out c2 c1]
      · have c2' : decide ((i : Int) < 2) = false := decide_eq_false (by omega); go_wp2; refine ⟨⟨i + 1, by omega, by simp, ?_⟩, by simp; omega⟩; rw [List.take_take, List.take_take, Nat.min_eq_left (by omega), Nat.min_eq_left (by omega)]
    · have c1' : decide ((i : Int) < (ds.length : Int)) = false := decide_eq_false (by omega)
      have e : i = ds.length := by omega
      subst e; rw [List.take_length]; have hv := int64_end ds X HD.out HV.out
      by_cases s : X < 0
      · have s' : decide (X < 0) = true := decide_eq_true s; rw [s'] at hc0; go_wp2
        have h1 : wrap64 (IntKind.u64.wrap (-((X.natAbs : Int) % 18446744073709551616))) = wrap64 X := by rw [wu64]; unfold wrap64; omega
        go_ret; refine ⟨?_, by first | exact ⟨0, rfl⟩ | exact Drawn0.refl _ | exact ⟨0, by simp⟩⟩
        show Ending.returned (.int .i64 (wrap64 (IntKind.u64.wrap (-((X.natAbs : Int) % 18446744073709551616))))) = _
        rw [h1]
      · have s' : decide (X < 0) = false := decide_eq_false s; rw [s'] at hc0; go_wp2
        have h1 : wrap64 ((X.natAbs : Int) % 18446744073709551616) = wrap64 X := by unfold wrap64; omega
        go_ret; refine ⟨?_, by first | exact ⟨0, rfl⟩ | exact Drawn0.refl _ | exact ⟨0, by simp⟩⟩
        show Ending.returned (.int .i64 (wrap64 ((X.natAbs : Int) % 18446744073709551616))) = _
        rw [h1]
def Fits2 (X : Int) : Prop := (X.natAbs : Int) < 4294967296 ^ 90
theorem Fits2.fits {X : Int} (h : Fits2 X) : Fits X := by
  have := pw_mono (show 90 ≤ 100 by omega)
  unfold Fits Fits2 at *
  generalize (4294967296 : Int) ^ 90 = P at *
  generalize (4294967296 : Int) ^ 100 = Q at *
  omega
theorem Fits2.of {X : Int} (h : (X.natAbs : Int) < 1000000000000000000000000000000000000000000000000000000000000) : Fits2 X := by
  unfold Fits2
  have := pw_mono (show 7 ≤ 90 by omega)
  have e : (4294967296 : Int) ^ 7 = 26959946667150639794667015087019630673637144422540572481103610249216 := by decide
  rw [e] at this
  generalize (4294967296 : Int) ^ 90 = P at *
  omega
def in64 (X : Int) : Bool := decide (-9223372036854775808 ≤ X ∧ X ≤ 9223372036854775807)
set_option maxHeartbeats 1600000 in
set_option maxRecDepth 100000 in
theorem impl_exactInt_IsInt64.law (g : Nat) (X : Int) (W : World) (hx : IsI W g X) (fx : Fits2 X) :
    Calls Try.prog 77 #[.pointer (some ⟨g, 0, none⟩)] W (fun e w' => e = .returned (.bool (in64 X)) ∧ Below W.heap.size W w') := by
  have hi := Aside0.mk (impl_exactInt_Int64.law g X W hx fx.fits)
  have hw : -9223372036854775808 ≤ wrap64 X ∧ wrap64 X ≤ 9223372036854775807 := by unfold wrap64; omega
  have fw : Fits2 (wrap64 X) := Fits2.of (by omega)
  have hn := Aside0.mk (show ∀ w1, Drawn0 W w1 → Calls Try.prog 81 #[.int .i64 (wrap64 X)] w1 (fun e w2 => ∃ g', e = .returned (.pointer (some ⟨g', 0, none⟩)) ∧ IsI w2 g' (wrap64 X) ∧ IsI w2 g X ∧ Below W.heap.size W w2) from fun w1 hd => by
    obtain ⟨n, rfl⟩ := hd
    refine (impl_newInt.calls (wrap64 X) (W.drewN n) hw.1 hw.2).mono fun e w2 h => ?_
    obtain ⟨g', h1, h2, h3, h4⟩ := h; refine ⟨g', h1, h3, ?_, below_then (pw_below_drewN (Below.refl W.heap.size W) n) (Nat.le_refl _) ⟨h4.os, h4.tape, h4.output, h4.size, fun k hk => h4.block k hk (by simp)⟩⟩; have hx' : IsI (W.drewN n) g X := hx; refine hx'.keep (grown_none h4 (W.drewN n).heap.size) (NotD.new (Nat.le_refl _)) ?_; have := hx.lt
    show g ≠ W.heap.size
    omega)
  have hc := Aside0.mk (show ∀ (w2 : World) (g' : Nat), IsI w2 g' (wrap64 X) → IsI w2 g X → Calls Try.prog 97 #[.pointer (some ⟨g', 0, none⟩), .pointer (some ⟨g, 0, none⟩)] w2 (fun e w' => e = .returned (.int .i64 (sign (wrap64 X - X))) ∧ Below w2.heap.size w2 w') from fun w2 g' h1 h2 => impl_exactInt_Cmp.law g' g (wrap64 X) X w2 h1 h2 fw.fits fx.fits)
  have hfin : (sign (wrap64 X - X) == 0) = in64 X := by
    have h1 : (sign (wrap64 X - X) = 0) ↔ (-9223372036854775808 ≤ X ∧ X ≤ 9223372036854775807) := by
      unfold sign wrap64
      constructor
      · intro h; split at h
        · omega
        · split at h <;> omega
      · intro h; rw [if_neg (by omega), if_neg (by omega)]
    unfold in64
    by_cases h : -9223372036854775808 ≤ X ∧ X ≤ 9223372036854775807
    · rw [decide_eq_true h, beq_iff_eq]; exact h1.2 h
    · rw [decide_eq_false h, beq_eq_false_iff_ne]; exact fun h2 => h (h1.1 h2)
  clear hx fx fw hw
  go_enter Try.func77, Try.ntmps77
  go_wp2_with (first
    | (go_at_call 79; refine hi.out.mono ?_; rintro e w1 ⟨rfl, hd⟩; have HD1 := Aside0.mk hd; clear hd)
    | (go_at_call 81; refine (hn.out w1 HD1.out).mono ?_; rintro e w2 ⟨g', rfl, h3, h4, h5⟩; have H3 := Aside0.mk h3; have H4 := Aside0.mk h4; have H5 := Aside0.mk h5; clear h3 h4 h5)
    | (go_at_call 97; refine (hc.out w2 g' H3.out H4.out).mono ?_; rintro e w3 ⟨rfl, hB⟩; have HB3 := Aside0.mk hB; clear hB))
  go_ret; refine ⟨?_, below_step H5.out HB3.out⟩
  rfl
end Go.Proofs.Ytenlaanknlafdaa.A

/- Integers of any size: the quotient and the rest of digits; a fraction is set to two integers, in lowest terms. Conditions: integers of at most 100 digits of 32 bits, the one below not being 0. -/
namespace Go.Proofs.Ytenlaanknlafdaa.A
set_option linter.unusedVariables false
set_option linter.unusedSimpArgs false
open Go.RowKit Go.Proofs.YtenlaanknlafdaaW.PrintWords Go.Proofs.YtenlaanknlafdaaW.PrintLast Go.Proofs.YtenlaanknlafdaaW.PrintMore
theorem Dg.nil (W : World) : Dg W (.slice none 0 0) [] := ⟨none, 0, rfl, Nat.le_refl _, ⟨rfl, by simp, fun h => absurd h (by simp)⟩, fun ad e => by simp at e, fun x hx => by simp at hx⟩
theorem Dg.keeps {W W' : World} {v : Value} {ds : List Int} (h : Dg W v ds) (hb : Below W.heap.size W W') : Dg W' v ds := h.below hb
theorem div_unique {a b q r : Int} (hb : 0 < b) (h : a = b * q + r) (h0 : 0 ≤ r) (h1 : r < b) : q = a / b ∧ r = a % b := by
  have e1 : a / b = q := by rw [h, Int.add_comm, Int.add_mul_ediv_left _ _ (by omega), Int.ediv_eq_zero_of_lt h0 h1]; omega
  have e2 := Int.mul_ediv_add_emod a b; rw [e1] at e2; exact ⟨e1.symm, by omega⟩
set_option maxHeartbeats 1600000 in
set_option maxRecDepth 100000 in
theorem impl_divideDigits.law (v v' : Value) (xs ys : List Int) (W : World) (ha : Dg W v xs) (hb : Dg W v' ys) (ca : Can xs) (cb : Can ys) (hne : ys ≠ []) (la : xs.length ≤ 100) (lb : ys.length ≤ 100) :
    Calls Try.prog 99 #[v, v'] W (fun e w' => ∃ v0 v1 q r, e = .returned (.tuple #[v0, v1]) ∧ Dg w' v0 q ∧ Dg w' v1 r ∧ val q = val xs / val ys ∧ val r = val xs % val ys ∧ Below W.heap.size W w') := by
  have hbp := can_pos ys cb hne; obtain ⟨A, c, rfl, al, aC, aT, aD⟩ := ha; obtain ⟨A', c', rfl, al', aC', aT', aD'⟩ := hb
  by_cases h : ys.length ≤ xs.length
  · obtain ⟨k, r1, r2, h1, h2, h3, h4, h5⟩ := divideDigits_eq xs ys aD cb hne (by omega) h
    refine (impl_divideDigits.calls k A c xs A' c' ys r1 r2 W aC al aC' al' h1).mono fun e w' hq => ?_
    obtain ⟨v0, v1, rfl, k1, k2, k3⟩ := hq; have hu := div_unique hbp h4 (val_nonneg r2 h3) h5; exact ⟨v0, v1, r1, r2, rfl, Dg.of_R k1 h2, Dg.of_R k2 h3, hu.1, hu.2, k3⟩
  · have hlt := can_longer cb aD (by omega); have hnn := val_nonneg xs aD; have e1 : val xs / val ys = 0 := Int.ediv_eq_zero_of_lt hnn hlt; have e2 : val xs % val ys = val xs := Int.emod_eq_of_lt hnn hlt; have HA := Aside0.mk (show Dg W (.slice A xs.length c) xs from ⟨A, c, rfl, al, aC, aT, aD⟩); have hc : decide ((xs.length : Int) < (ys.length : Int)) = true := decide_eq_true (by omega); have hc2 : decide (xs.length < ys.length) = true := decide_eq_true (by omega); rw [e1, e2]; clear aC aT aD aC' aT' aD' ca cb hne hbp hlt hnn e1 e2 h la lb
    go_enter Try.func99, Try.ntmps99
    go_wp2; go_ret2; exact ⟨_, _, [], xs, rfl, Dg.nil _, HA.out, rfl, rfl, Below.refl _ _⟩
end Go.Proofs.Ytenlaanknlafdaa.A

/- A fraction is set to two integers, in lowest terms. Conditions: integers of at most 100 digits of 32 bits, the one below not being 0. -/
namespace Go.Proofs.Ytenlaanknlafdaa.A
set_option linter.unusedVariables false
set_option linter.unusedSimpArgs false
open Go.RowKit Go.Proofs.YtenlaanknlafdaaW.PrintWords Go.Proofs.YtenlaanknlafdaaW.PrintLast Go.Proofs.YtenlaanknlafdaaW.PrintMore
def gcdI (N D : Int) : Int := (Nat.gcd N.natAbs D.natAbs : Int)
def numI (N D : Int) : Int := sgn (decide (N < 0) != decide (D < 0)) ((N.natAbs : Int) / gcdI N D)
def denI (N D : Int) : Int := (D.natAbs : Int) / gcdI N D
def PutR (g : Nat) (N D : Int) (W : World) (e : Ending) (w' : World) : Prop := e = .returned (.pointer (some ⟨g, 0, none⟩)) ∧ IsR w' g N D ∧ W.grownBy w' (some g)
theorem euclid_step (a b : Int) (G : Nat) (ha : 0 ≤ a) (hb : 0 ≤ b) (h : Nat.gcd a.toNat b.toNat = G) : Nat.gcd b.toNat (a % b).toNat = G := by
  obtain ⟨m, rfl⟩ := Int.eq_ofNat_of_zero_le ha; obtain ⟨n, rfl⟩ := Int.eq_ofNat_of_zero_le hb
  have e : ((m : Int) % (n : Int)).toNat = m % n := by rw [← Int.natCast_emod, Int.toNat_natCast]
  rw [e]; simp only [Int.toNat_natCast] at *; rw [← h, Nat.gcd_comm m n, Nat.gcd_rec n m, Nat.gcd_comm]
theorem put_new (W : World) (n : Nat) (hn : W.heap.size = n) (less : Bool) (v : Value) (r : List Int) (hv : Dg W v r) : Calls Try.prog 98 #[.pointer (some ⟨n, 0, none⟩), .bool less, v] (W.alloc zeroI) (fun e w' => e = .returned (.pointer (some ⟨n, 0, none⟩)) ∧ ∃ u ds, w'.cell? ⟨n, 1, none⟩ = some u ∧ Dg w' u ds ∧ Can ds ∧ val ds = val r ∧ Below W.heap.size W w') := by
  subst hn
  refine (impl_exactInt_put.calls W.heap.size #[.bool false, .slice none 0 0] 61 less v r (W.alloc zeroI) (blk_new W _) (by decide) (by decide) (hv.alloc _)).mono fun e w' h => ?_
  obtain ⟨h0, u, ds, h1, h2, h3, h4, h5⟩ := h; exact ⟨h0, u, ds, (blk_cell h1 1).trans rfl, h2, h3, h4, below_new h5⟩
theorem setfrac_fin {W W3 w4 w5 : World} {g : Nat} {N D : Int} {u0 u1 u2 ub : Value} {less : Bool} {q ds2 : List Int} {e : Ending} (hb : W.heap[g]? = some (.cells #[u0, u1, u2] 63 (0, 0))) (h3 : Below W.heap.size W W3) (hq : Digs q) (hput : impl_exactInt_put.Post g #[u0, u1, u2] 63 less q W3.drew e w4) (h5 : Below w4.heap.size w4 w5) (hub : Dg w5 ub ds2) (hc : Can ds2) (hD : val ds2 = D) (hD1 : 1 ≤ D) (hN : sgn less (val q) = N) :
    PutR g N D W (.returned (.pointer (some ⟨g, 0, none⟩))) (w5.setCell ⟨g, 2, none⟩ ub) := by
  obtain ⟨_, v, ds, k1, k2, k3, k4, k5⟩ := PutI.of_put hq hput; rw [hN] at k1 k4; have b5 := blk_below k1 h5; have hnd : NotD w5 g := NotD.of b5 (by decide); have hgr : w5.grownBy (w5.setCell ⟨g, 2, none⟩ ub) (some g) := grown_set (World.grownBy.refl w5 _) 2 ub; have hW3 : W.grownBy W3 (some g) := ⟨h3.os, h3.tape, h3.output, h3.size, fun k hk _ => h3.block k hk⟩; have h45 : w4.grownBy w5 (some g) := ⟨h5.os, h5.tape, h5.output, h5.size, fun k hk _ => h5.block k hk⟩; refine ⟨rfl, ⟨v, ds, ub, ds2, blk_set b5 2 ub, (k2.below h5).keep hgr hnd, k3, k4, hub.keep hgr hnd, hc, hD, hD1⟩, ?_⟩; exact World.grownBy.trans (World.grownBy.trans (World.grownBy.trans hW3 (grown_undrew k5)) h45) hgr
set_option maxHeartbeats 3200000 in
set_option maxRecDepth 100000 in
theorem impl_exactRat_SetFrac.law (g gn gd : Nat) (N D : Int) (u0 u1 u2 : Value) (W : World) (hb : W.heap[g]? = some (.cells #[u0, u1, u2] 63 (0, 0))) (hn : IsI W gn N) (hd : IsI W gd D) (nn : gn ≠ g) (nd : gd ≠ g) (fn : Fits N) (fd : Fits D) (hD : D ≠ 0) :
    Calls Try.prog 80 #[.pointer (some ⟨g, 0, none⟩), .pointer (some ⟨gn, 0, none⟩), .pointer (some ⟨gd, 0, none⟩)] W (PutR g (numI N D) (denI N D) W) := by
  obtain ⟨xs, S, v, ds, x1, x2, x3, x4, x5, x6, x7, x8⟩ := hn; obtain ⟨ys, S', v', es, y1, y2, y3, y4, y5, y6, y7, y8⟩ := hd; have lx := fits_len fn x7 x8; have ly := fits_len fd y7 y8; have hc0 : W.cell? ⟨gn, 0, none⟩ = some (.bool (decide (N < 0))) := (blk_cell x1 0).trans x4; have hc1 : W.cell? ⟨gn, 1, none⟩ = some v := (blk_cell x1 1).trans x5; have hd0 : W.cell? ⟨gd, 0, none⟩ = some (.bool (decide (D < 0))) := (blk_cell y1 0).trans y4; have hd1 : W.cell? ⟨gd, 1, none⟩ = some v' := (blk_cell y1 1).trans y5; have HX := Aside0.mk x6; have HY := Aside0.mk y6; have CX := Aside0.mk x7; have CY := Aside0.mk y7; have VX := Aside0.mk x8; have VY := Aside0.mk y8; have HB := Aside0.mk hb; clear x1 x2 x3 x4 x5 x6 x7 x8 y1 y2 y3 y4 y5 y6 y7 y8 hb; have hstart := Aside0.mk (show Nat.gcd (val ds).toNat (val es).toNat = Nat.gcd N.natAbs D.natAbs by rw [VX.out, VY.out]; simp); have LX := Aside0.mk lx; have LY := Aside0.mk ly; have HDne := Aside0.mk hD; have NN := Aside0.mk nn; have ND := Aside0.mk nd; have FD := Aside0.mk fd; clear lx ly fn fd hD nn nd
  go_enter Try.func80, Try.ntmps80
  go_wp2
  go_quiet (fail)
  go_wp2
  go_loopg [7, 8] ((val es).toNat + 1) (fun kq v7 v8 w' => ∃ (z7 z8 : Value) (as_ bs : List Int), z7 = v7 ∧ z8 = v8 ∧ Aside0 (Dg w' v7 as_) ∧ Aside0 (Can as_) ∧ Aside0 (as_.length ≤ 100) ∧ Aside0 (Dg w' v8 bs) ∧ Aside0 (Can bs) ∧ Aside0 (bs.length ≤ 100) ∧ Aside0 (Nat.gcd (val as_).toNat (val bs).toNat = Nat.gcd N.natAbs D.natAbs) ∧ Aside0 ((val bs).toNat < kq) ∧ Aside0 (Below W.heap.size W w'))
  case atStart => exact ⟨_, _, ds, es, rfl, rfl, HX, CX, LX, HY, CY, LY, hstart, ⟨Nat.lt_succ_self _⟩, ⟨pw_below_drewN (Below.refl W.heap.size W) _⟩⟩
  case round =>
    obtain ⟨v7, v8, as_, bs, rfl, rfl, HA, CA, LA, HBb, CB, LB, HG, HK, HBel⟩ := hrel
    cases gk with
    | zero => exact absurd HK.out (by omega)
    | succ k1 =>
      obtain ⟨Ab, cb, rfl, lb, hCb, htb, hdb⟩ := HBb.out
      by_cases hne : bs = []
      · subst hne; have hl : decide (0 < (([] : List Int).length : Int)) = false := rfl; have hl2 : decide (0 < ([] : List Int).length) = false := rfl
        have hG : val as_ = gcdI N D := by
          have h := HG.out; have gx := val_nonneg as_ CA.out.1; simp only [val, Int.toNat_zero, Nat.gcd_zero_right] at h
          unfold gcdI; omega
        have hGp : 0 < gcdI N D := by
          have := Nat.gcd_pos_of_pos_right N.natAbs (show 0 < D.natAbs by have := HDne.out; omega)
          unfold gcdI; omega
        have hane : as_ ≠ [] := by intro h; rw [h] at hG; simp only [val] at hG; omega
        have hc1w := (HBel.out.cell (World.block_lt_of_cell? W _ hc1)).trans hc1; have hq1 := Aside0.mk (impl_divideDigits.law v v7 ds as_ wr (HX.out.below HBel.out) HA.out CX.out CA.out hane LX.out LA.out); have hq2 := Aside0.mk (show ∀ w2, Below wr.heap.size wr w2 → Calls Try.prog 99 #[v', v7] w2 _ from fun w2 hB2 => impl_divideDigits.law v' v7 es as_ w2 ((HY.out.below HBel.out).below hB2) (HA.out.below hB2) CY.out CA.out hane LY.out LA.out); have HG1 := Aside0.mk hG; have HG2 := Aside0.mk hGp; clear hG hGp hane hCb htb hdb
        go_wp2_with (first
          | (go_at_call_of 99 v; refine hq1.out.mono ?_; rintro e w2 ⟨v0, v1, q, r, rfl, k1_, k2_, k3_, k4_, k5_⟩; have HQ1 := Aside0.mk k1_; have HV1 := Aside0.mk k3_; have HB1 := Aside0.mk k5_; have hd1w := ((below_step HBel.out k5_).cell (World.block_lt_of_cell? W _ hd1)).trans hd1; clear k1_ k2_ k3_ k4_ k5_)
          | (go_at_call_of 99 v'; refine (hq2.out w2 HB1.out).mono ?_; rintro e w3 ⟨v0', v1', q', r', rfl, k1_, k2_, k3_, k4_, k5_⟩; have HQ2 := Aside0.mk k1_; have HV2 := Aside0.mk k3_; have HB2 := Aside0.mk (below_step (below_step HBel.out HB1.out) k5_); have hc0w := (HB2.out.cell (World.block_lt_of_cell? W _ hc0)).trans hc0; have hd0w := (HB2.out.cell (World.block_lt_of_cell? W _ hd0)).trans hd0; have HQ1' := Aside0.mk (HQ1.out.below k5_); clear k1_ k2_ k3_ k4_ k5_))
        have hp1 := Aside0.mk (impl_exactInt_put.calls g #[u0, u1, u2] 63 (decide (N < 0) != decide (D < 0)) v0 q w3.drew (show w3.drew.heap[g]? = some _ from blk_below (w1 := w3) HB.out HB2.out) (by simp) (by decide) HQ1'.out)
        have hp2 := Aside0.mk (show ∀ w4 e, impl_exactInt_put.Post g #[u0, u1, u2] 63 (decide (N < 0) != decide (D < 0)) q w3.drew e w4 → Calls Try.prog 98 #[.pointer (some ⟨w4.heap.size, 0, none⟩), .bool false, v0'] (w4.alloc zeroI) _ from fun w4 e h => put_new w4 w4.heap.size rfl false v0' q' (by
          obtain ⟨_, _, _, _, _, _, _, hg⟩ := h
          exact Dg.keep (W := w3.drew) HQ2.out hg (NotD.of (blk_below (w1 := w3) HB.out HB2.out) (by decide))))
        have hblk := Aside0.mk (show ∀ w4 e, impl_exactInt_put.Post g #[u0, u1, u2] 63 (decide (N < 0) != decide (D < 0)) q w3.drew e w4 → ∃ z0 z1, w4.heap[g]? = some (.cells #[z0, z1, u2] 63 (0, 0)) from fun w4 e h => by
          obtain ⟨_, z, _, h1, _⟩ := h
          exact ⟨_, z, h1⟩)
        go_still_tail 13, (by kernel_rfl)
        change wpList _ _ _ _ _ w3.drew
        go_wp2_with (first
          | (go_at_call_of 98 v0; refine hp1.out.mono ?_; rintro e w4 hput; have he := hput.1; subst he; obtain ⟨z0, z1, hz⟩ := hblk.out w4 _ hput; have HZ := Aside0.mk hz; have hp3 := Aside0.mk (hp2.out w4 _ hput); have HPUT := Aside0.mk hput; clear hput hz)
          | (go_at_call_of 98 v0'; refine hp3.out.mono ?_; rintro e w5 ⟨rfl, ub, ds2, p1_, p2_, p3_, p4_, p5_⟩; obtain ⟨Au, cu, rfl, -⟩ := id p2_; have hbk := blk_below HZ.out p5_; have hf2 := blk_frozen hbk 2; have hc2 : w5.cell? ⟨g, 2, none⟩ = some u2 := (blk_cell hbk 2).trans rfl; have HP2 := Aside0.mk p2_; have HP3 := Aside0.mk p3_; have HP4 := Aside0.mk p4_; have HP5 := Aside0.mk p5_; clear p2_ p3_ p4_ p5_ hbk))
        go_ret; refine setfrac_fin HB.out HB2.out HQ1'.out.digs HPUT.out HP5.out HP2.out HP3.out ?_ ?_ ?_
        · rw [HP4.out, HV2.out, VY.out, HG1.out]; rfl
        · have h1 := Nat.gcd_dvd_right N.natAbs D.natAbs
          unfold denI gcdI
          have h2 : (0 : Int) < ((Nat.gcd N.natAbs D.natAbs : Nat) : Int) := HG2.out; refine Int.le_ediv_of_mul_le h2 ?_; rw [Int.one_mul]
          exact_mod_cast Nat.le_of_dvd (by have := HDne.out; omega) h1
        · rw [HV1.out, VX.out, HG1.out]; rfl
      · have hl : decide (0 < (bs.length : Int)) = true := decide_eq_true (by have := List.length_pos_iff.2 hne; omega); have hl2 : decide (0 < bs.length) = true := decide_eq_true (List.length_pos_iff.2 hne); have HNE := Aside0.mk hne; clear hne; have hq := Aside0.mk (impl_divideDigits.law v7 (.slice Ab bs.length cb) as_ bs wr HA.out HBb.out CA.out CB.out HNE.out LA.out LB.out); clear hCb htb hdb
        go_wp2_with (first | (go_at_call 99; refine hq.out.mono ?_; rintro e w2 ⟨v0, v1, q, r, rfl, k1_, k2_, k3_, k4_, k5_⟩; have HQR := Aside0.mk k2_; have HQV := Aside0.mk k4_; have HQB := Aside0.mk k5_; clear k1_ k2_ k3_ k4_ k5_))
        have hp := Aside0.mk (put_new w2.drew w2.heap.size rfl false v1 r HQR.out)
        go_region_with
          (first
            | (go_at_call 98; refine hp.out.mono ?_; rintro e w3 ⟨rfl, u, rs, p1_, p2_, p3_, p4_, p5_⟩; have HP2 := Aside0.mk p2_; have HP3 := Aside0.mk p3_; have HP4 := Aside0.mk p4_; have HP5 := Aside0.mk p5_; clear p2_ p3_ p4_ p5_))
        clear hp hq hl hl2; go_wp2
        go_roundg k1
        case measure => omega
        case rel =>
          have gy := val_nonneg bs CB.out.1; have gx := val_nonneg as_ CA.out.1; have hpos := can_pos bs CB.out HNE.out
          have hlt : val rs < val bs := by rw [HP4.out, HQV.out]; exact Int.emod_lt_of_pos _ hpos
          have hrs := val_nonneg rs HP3.out.1; have hB2 : Below W.heap.size W w2 := below_step HBel.out HQB.out; have hb2 : Dg w2 (.slice Ab bs.length cb) bs := HBb.out.below HQB.out; refine ⟨_, _, bs, rs, rfl, rfl, ⟨Dg.below (W := w2.drew) hb2 HP5.out⟩, CB, LB, HP2, HP3, ⟨?_⟩, ⟨?_⟩, ⟨?_⟩, ⟨below_step (W := w2.drew) (below_drew hB2) HP5.out⟩⟩
          · refine can_len HP3.out (Int.lt_trans hlt ?_); have h1 := val_lt bs CB.out.1; have h2 := pw_mono LB.out
            omega
          · rw [HP4.out, HQV.out]; exact euclid_step _ _ _ gx gy HG.out
          · have := HK.out; omega
end Go.Proofs.Ytenlaanknlafdaa.A

/- Fractions of any size: what the methods of *exactRat tell. Conditions: integers of at most 20 digits of 32 bits. -/
namespace Go.Proofs.Ytenlaanknlafdaa.A
set_option linter.unusedVariables false
set_option linter.unusedSimpArgs false
open Go.RowKit Go.Proofs.YtenlaanknlafdaaW.PrintWords Go.Proofs.YtenlaanknlafdaaW.PrintLast Go.Proofs.YtenlaanknlafdaaW.PrintMore
abbrev zeroR : Obj := .cells #[.bool false, .slice none 0 0, .slice none 0 0] 63 (0, 0)
theorem IsI.below {W W' : World} {g : Nat} {X : Int} (h : IsI W g X) (hb : Below W.heap.size W W') : IsI W' g X := by
  obtain ⟨cs, T, v, ds, h1, h2, h3, h4, h5, h6, h7⟩ := h; exact ⟨cs, T, v, ds, blk_below h1 hb, h2, h3, h4, h5, h6.below hb, h7⟩
theorem IsR.below {W W' : World} {g : Nat} {N D : Int} (h : IsR W g N D) (hb : Below W.heap.size W W') : IsR W' g N D := by
  obtain ⟨v, ds, vb, bs, h1, h2, h3, h4, h5, h6⟩ := h; exact ⟨v, ds, vb, bs, blk_below h1 hb, h2.below hb, h3, h4, h5.below hb, h6⟩
theorem IsR.lt {W : World} {g : Nat} {N D : Int} (h : IsR W g N D) : g < W.heap.size := h.num.lt
theorem IsR.pos {W : World} {g : Nat} {N D : Int} (h : IsR W g N D) : 1 ≤ D := by obtain ⟨_, _, _, _, _, _, _, _, _, _, _, h⟩ := h; exact h
theorem NewI.below {X : Int} {W w' : World} {e : Ending} (h : NewI X W e w') : Below W.heap.size W w' := by
  obtain ⟨g, _, _, _, h⟩ := h; exact ⟨h.os, h.tape, h.output, h.size, fun k hk => h.block k hk (by simp)⟩
def NewR (N D : Int) (W : World) (e : Ending) (w' : World) : Prop := ∃ g, e = .returned (.pointer (some ⟨g, 0, none⟩)) ∧ W.heap.size ≤ g ∧ IsR w' g N D ∧ Below W.heap.size W w'
theorem PutI.set {g : Nat} {cs : Array Value} {T : TypeId} {X : Int} {W w' : World} {e : Ending} (h : PutI g cs T X W e w') (hcs : 2 ≤ cs.size) (hT : T ≠ 95) : e = .returned (.pointer (some ⟨g, 0, none⟩)) ∧ IsI w' g X ∧ W.grownBy w' (some g) := ⟨h.1, h.isI hcs hT, h.grown⟩
theorem mul_at (n gx gy : Nat) (X Y : Int) (W : World) (hb : W.heap[n]? = some zeroI) (hx : IsI W gx X) (hy : IsI W gy Y) (nx : gx ≠ n) (ny : gy ≠ n) (fx : Fits X) (fy : Fits Y) :
    Calls Try.prog 88 #[.pointer (some ⟨n, 0, none⟩), .pointer (some ⟨gx, 0, none⟩), .pointer (some ⟨gy, 0, none⟩)] W (fun e w' => e = .returned (.pointer (some ⟨n, 0, none⟩)) ∧ IsI w' n (X * Y) ∧ W.grownBy w' (some n)) :=
  (impl_exactInt_Mul.law n _ _ gx gy X Y W hb (by decide) (by decide) hx hy nx ny fx fy).mono fun e w' h => h.set (by decide) (by decide)
theorem add_at (n gx gy : Nat) (X Y : Int) (W : World) (hb : W.heap[n]? = some zeroI) (hx : IsI W gx X) (hy : IsI W gy Y) (nx : gx ≠ n) (ny : gy ≠ n) (fx : Fits X) (fy : Fits Y) :
    Calls Try.prog 92 #[.pointer (some ⟨n, 0, none⟩), .pointer (some ⟨gx, 0, none⟩), .pointer (some ⟨gy, 0, none⟩)] W (fun e w' => e = .returned (.pointer (some ⟨n, 0, none⟩)) ∧ IsI w' n (X + Y) ∧ W.grownBy w' (some n)) :=
  (impl_exactInt_Add.law n _ _ gx gy X Y W hb (by decide) (by decide) hx hy nx ny fx fy).mono fun e w' h => h.set (by decide) (by decide)
theorem below_at {W w w' : World} {n : Nat} (h : Below W.heap.size W w) (hg : w.grownBy w' (some n)) (hn : W.heap.size ≤ n) : Below W.heap.size W w' := pw_below_grown h (some n) h.size hg (fun k hk => by injection hk with hk; omega)
theorem notD_zeroI {W : World} {n : Nat} (h : W.heap[n]? = some zeroI) : NotD W n := NotD.of h (by decide)
set_option maxHeartbeats 1600000 in
set_option maxRecDepth 100000 in
theorem impl_newRat.law (n d : Int) (W : World) (n0 : -9223372036854775808 ≤ n) (n1 : n ≤ 9223372036854775807) (d0 : -9223372036854775808 ≤ d) (d1 : d ≤ 9223372036854775807) (hd : d ≠ 0) :
    Calls Try.prog 48 #[.int .i64 n, .int .i64 d] W (NewR (numI n d) (denI n d) W) := by
  have h1 := Aside0.mk (impl_newInt.calls n (W.alloc zeroR) n0 n1); have h2 := Aside0.mk (show ∀ w1, Calls Try.prog 81 #[.int .i64 d] w1 (NewI d w1) from fun w1 => impl_newInt.calls d w1 d0 d1); have fn : Fits n := (Fits2.of (by omega)).fits; have fd : Fits d := (Fits2.of (by omega)).fits
  have h3 := Aside0.mk (show ∀ (w1 w2 : World) (g1 g2 : Nat), (W.alloc zeroR).heap.size ≤ g1 → IsI w1 g1 n → Below (W.alloc zeroR).heap.size (W.alloc zeroR) w1 → w1.heap.size ≤ g2 → IsI w2 g2 d → Below w1.heap.size w1 w2 → Calls Try.prog 80 #[.pointer (some ⟨W.heap.size, 0, none⟩), .pointer (some ⟨g1, 0, none⟩), .pointer (some ⟨g2, 0, none⟩)] w2 (NewR (numI n d) (denI n d) W) from fun w1 w2 g1 g2 k1 k2 k3 k4 k5 k6 => by
    have hb1 := blk_below (blk_new W zeroR) k3; have hs := k3.size
    have l1 : g1 ≠ W.heap.size := by have : (W.alloc zeroR).heap.size = W.heap.size + 1 := by simp
                                     omega
    have l2 : g2 ≠ W.heap.size := by have : (W.alloc zeroR).heap.size = W.heap.size + 1 := by simp
                                     omega
    refine (impl_exactRat_SetFrac.law W.heap.size g1 g2 n d _ _ _ w2 (blk_below hb1 k6) (k2.below k6) k5 l1 l2 fn fd hd).mono fun e w' h => ?_
    have hW2 : Below W.heap.size W w2 := below_step (below_then (below_alloc (Below.refl W.heap.size W) zeroR) (by simp) k3) k6
    exact ⟨_, h.1, Nat.le_refl _, h.2.1, below_at hW2 h.2.2 (Nat.le_refl _)⟩)
  go_enter Try.func48, Try.ntmps48
  go_wp2_with (first
    | (go_at_call_of 81 n; refine h1.out.mono ?_; rintro e w1 hq; have B1 := Aside0.mk hq.below; obtain ⟨g1, rfl, k1_, k2_, k3_⟩ := hq; have K1 := Aside0.mk k1_; have K2 := Aside0.mk k2_; clear k1_ k2_ k3_)
    | (go_at_call_of 81 d; refine (h2.out w1).mono ?_; rintro e w2 hq; have B2 := Aside0.mk hq.below; obtain ⟨g2, rfl, k1_, k2_, k3_⟩ := hq; have K4 := Aside0.mk k1_; have K5 := Aside0.mk k2_; clear k1_ k2_ k3_)
    | (go_at_call 80; refine (h3.out w1 w2 g1 g2 K1.out K2.out B1.out K4.out K5.out B2.out).mono ?_; rintro e w3 hq; obtain ⟨g3, rfl, k1_⟩ := hq; have HQ := Aside0.mk k1_; clear k1_))
  go_ret; exact ⟨g3, rfl, HQ.out⟩
end Go.Proofs.Ytenlaanknlafdaa.A

/- Fractions of any size: the sign, copies, opposites. Conditions: integers of at most 20 digits of 32 bits. -/
namespace Go.Proofs.Ytenlaanknlafdaa.A
set_option linter.unusedVariables false
set_option linter.unusedSimpArgs false
open Go.RowKit Go.Proofs.YtenlaanknlafdaaW.PrintWords Go.Proofs.YtenlaanknlafdaaW.PrintLast Go.Proofs.YtenlaanknlafdaaW.PrintMore
end Go.Proofs.Ytenlaanknlafdaa.A

/- Fractions of any size: products and quotients. Conditions: integers of at most 20 digits of 32 bits; what is divided by is not 0. -/
namespace Go.Proofs.Ytenlaanknlafdaa.A
set_option linter.unusedVariables false
set_option linter.unusedSimpArgs false
open Go.RowKit Go.Proofs.YtenlaanknlafdaaW.PrintWords Go.Proofs.YtenlaanknlafdaaW.PrintLast Go.Proofs.YtenlaanknlafdaaW.PrintMore
def Lo (X : Int) : Prop := (X.natAbs : Int) < 4294967296 ^ 20
theorem Lo.of {X : Int} (h : (X.natAbs : Int) < 1000000000000000000000000000000000000000000000000000000000000) : Lo X := by
  unfold Lo
  have := pw_mono (show 7 ≤ 20 by omega)
  have e : (4294967296 : Int) ^ 7 = 26959946667150639794667015087019630673637144422540572481103610249216 := by decide
  rw [e] at this
  generalize (4294967296 : Int) ^ 20 = P at *
  omega
theorem Lo.fits {X : Int} (h : Lo X) : Fits X := by
  have := pw_mono (show 20 ≤ 100 by omega)
  unfold Fits Lo at *
  generalize (4294967296 : Int) ^ 20 = P at *
  generalize (4294967296 : Int) ^ 100 = Q at *
  omega
theorem lo_mul {X Y : Int} (hx : Lo X) (hy : Lo Y) : ((X * Y).natAbs : Int) < 4294967296 ^ 40 := by
  unfold Lo at *
  have e : (4294967296 : Int) ^ 40 = 4294967296 ^ 20 * 4294967296 ^ 20 := by rw [← Int.pow_add]
  rw [Int.natAbs_mul, Int.natCast_mul, e]; have h1 : (X.natAbs : Int) * (Y.natAbs : Int) ≤ (X.natAbs : Int) * 4294967296 ^ 20 := Int.mul_le_mul_of_nonneg_left (Int.le_of_lt hy) (by omega); have h2 : (X.natAbs : Int) * 4294967296 ^ 20 < 4294967296 ^ 20 * 4294967296 ^ 20 := Int.mul_lt_mul_of_pos_right hx (pw_pos 20); exact Int.lt_of_le_of_lt h1 h2
theorem fits_mul {X Y : Int} (hx : Lo X) (hy : Lo Y) : Fits (X * Y) := by
  have h := lo_mul hx hy; have := pw_mono (show 40 ≤ 100 by omega)
  unfold Fits
  generalize (4294967296 : Int) ^ 40 = P at *
  generalize (4294967296 : Int) ^ 100 = Q at *
  omega
theorem fits_sum {X Y Z V : Int} (hx : Lo X) (hy : Lo Y) (hz : Lo Z) (hv : Lo V) : Fits (X * Y + Z * V) := by
  have h := lo_mul hx hy; have h' := lo_mul hz hv; have e := pw_succ 40; have := pw_mono (show 41 ≤ 100 by omega); rw [show 40 + 1 = 41 from rfl] at e
  unfold Fits
  generalize (4294967296 : Int) ^ 40 = P at *
  generalize (4294967296 : Int) ^ 41 = R at *
  generalize (4294967296 : Int) ^ 100 = Q at *
  omega
theorem grown_to {W w w' : World} {g : Nat} (h : Below W.heap.size W w) (hg : w.grownBy w' (some g)) : W.grownBy w' (some g) := World.grownBy.trans ⟨h.os, h.tape, h.output, h.size, fun k hk _ => h.block k hk⟩ hg
theorem size_alloc (W : World) (o : Obj) : (W.alloc o).heap.size = W.heap.size + 1 := by simp
set_option maxHeartbeats 1600000 in
set_option maxRecDepth 100000 in
theorem impl_exactRat_Quo.law (g gx gy : Nat) (N D N' D' : Int) (u0 u1 u2 : Value) (W : World) (hb : W.heap[g]? = some (.cells #[u0, u1, u2] 63 (0, 0))) (hx : IsR W gx N D) (hy : IsR W gy N' D') (lN : Lo N) (lD : Lo D) (lN' : Lo N') (lD' : Lo D') (hy0 : N' ≠ 0) :
    Calls Try.prog 63 #[.pointer (some ⟨g, 0, none⟩), .pointer (some ⟨gx, 0, none⟩), .pointer (some ⟨gy, 0, none⟩)] W (PutR g (numI (N * D') (D * N')) (denI (N * D') (D * N')) W) := by
  have HX := Aside0.mk hx; have HY := Aside0.mk hy; have HB := Aside0.mk hb; have L1 := Aside0.mk lN.fits; have L2 := Aside0.mk lD'.fits; have L3 := Aside0.mk lD.fits; have L4 := Aside0.mk lN'.fits; have F1 := Aside0.mk (fits_mul lN lD'); have F2 := Aside0.mk (fits_mul lD lN'); have NE := Aside0.mk (show D * N' ≠ 0 from Int.mul_ne_zero (by have := hx.pos; omega) hy0); have B0 := Aside0.mk (below_alloc (Below.refl W.heap.size W) zeroI); clear hx hy hb lN lD lN' lD' hy0
  go_enter Try.func63, Try.ntmps63
  go_wp2_with (first
    | (go_at_call_of 88 W.heap.size; refine (mul_at W.heap.size g1 g2 N D' w2 (blk_below (blk_below (blk_new W zeroI) B1.out) B2.out) (K1.out.below B2.out) K2.out (by have := G1.out; have := size_alloc W zeroI; omega) (by have := G2.out; have := B1.out.size; have := size_alloc W zeroI; omega) L1.out L2.out).mono ?_; rintro e w3 ⟨rfl, k1_, k2_⟩; have K3 := Aside0.mk k1_; have C3 := Aside0.mk (below_at C2.out k2_ (Nat.le_refl _)); have C3a := Aside0.mk (below_alloc C3.out zeroI); clear k1_ k2_)
    | (go_at_call_of 88 w3.heap.size; refine (mul_at w3.heap.size g3 g4 D N' w5 (blk_below (blk_below (blk_new w3 zeroI) B4.out) B5.out) (K4.out.below B5.out) K5.out (by have := G4.out; have := size_alloc w3 zeroI; omega) (by have := G5.out; have := B4.out.size; have := size_alloc w3 zeroI; omega) L3.out L4.out).mono ?_; rintro e w6 ⟨rfl, k1_, k2_⟩; have K6 := Aside0.mk k1_; have C6 := Aside0.mk (below_at C5.out k2_ C3.out.size); have K3' := Aside0.mk ((((K3.out.alloc zeroI).below B4.out).below B5.out).keep k2_ (notD_zeroI (blk_below (blk_below (blk_new w3 zeroI) B4.out) B5.out)) (by have := K3.out.lt; omega)); clear k1_ k2_)
    | (go_at_call 80; refine (impl_exactRat_SetFrac.law g W.heap.size w3.heap.size (N * D') (D * N') u0 u1 u2 w6 (blk_below HB.out C6.out) K3'.out K6.out (by have := blk_lt HB.out; omega) (by have := blk_lt HB.out; have := C3.out.size; omega) F1.out F2.out NE.out).mono ?_; rintro e w7 ⟨rfl, k1_, k2_⟩; have K7 := Aside0.mk k1_; have G7 := Aside0.mk (grown_to C6.out k2_); clear k1_ k2_)
    | (go_at_call_of 78 gx; refine (impl_exactRat_Denom.calls gx _ _ (w3.alloc zeroI) (HX.out.below C3a.out)).mono ?_; rintro e w4 hq; have B4 := Aside0.mk hq.below; obtain ⟨g3, rfl, k1_, k2_, -⟩ := hq; have G4 := Aside0.mk k1_; have K4 := Aside0.mk k2_; have C4 := Aside0.mk (below_then C3a.out (by first | exact C3a.out.size) B4.out); clear k1_ k2_)
    | (go_at_call_of 76 gy; refine (impl_exactRat_Num.calls gy _ w4 (HY.out.below C4.out).num).mono ?_; rintro e w5 hq; have B5 := Aside0.mk hq.below; obtain ⟨g4, rfl, k1_, k2_, -⟩ := hq; have G5 := Aside0.mk k1_; have K5 := Aside0.mk k2_; have C5 := Aside0.mk (below_then C4.out (by first | exact C4.out.size) B5.out); clear k1_ k2_)
    | (go_at_call_of 76 gx; refine (impl_exactRat_Num.calls gx _ (W.alloc zeroI) (HX.out.below B0.out).num).mono ?_; rintro e w1 hq; have B1 := Aside0.mk hq.below; obtain ⟨g1, rfl, k1_, k2_, -⟩ := hq; have G1 := Aside0.mk k1_; have K1 := Aside0.mk k2_; have C1 := Aside0.mk (below_then B0.out (by first | exact B0.out.size) B1.out); clear k1_ k2_)
    | (go_at_call_of 78 gy; refine (impl_exactRat_Denom.calls gy _ _ w1 (HY.out.below C1.out)).mono ?_; rintro e w2 hq; have B2 := Aside0.mk hq.below; obtain ⟨g2, rfl, k1_, k2_, -⟩ := hq; have G2 := Aside0.mk k1_; have K2 := Aside0.mk k2_; have C2 := Aside0.mk (below_then C1.out (by first | exact C1.out.size) B2.out); clear k1_ k2_))
  go_ret; exact ⟨rfl, K7.out, G7.out⟩
end Go.Proofs.Ytenlaanknlafdaa.A

/- Fractions of any size: sums, differences, the order. Conditions: integers of at most 20 digits of 32 bits. -/
namespace Go.Proofs.Ytenlaanknlafdaa.A
set_option linter.unusedVariables false
set_option linter.unusedSimpArgs false
open Go.RowKit Go.Proofs.YtenlaanknlafdaaW.PrintWords Go.Proofs.YtenlaanknlafdaaW.PrintLast Go.Proofs.YtenlaanknlafdaaW.PrintMore
theorem blk_two (W : World) : ((W.alloc zeroI).alloc zeroI).heap[W.heap.size + 1]? = some zeroI := by
  have h := blk_new (W.alloc zeroI) zeroI; rw [size_alloc] at h; exact h
set_option maxHeartbeats 3200000 in
set_option maxRecDepth 100000 in
theorem impl_exactRat_Add.law (g gx gy : Nat) (N D N' D' : Int) (u0 u1 u2 : Value) (W : World) (hb : W.heap[g]? = some (.cells #[u0, u1, u2] 63 (0, 0))) (hx : IsR W gx N D) (hy : IsR W gy N' D') (lN : Lo N) (lD : Lo D) (lN' : Lo N') (lD' : Lo D') :
    Calls Try.prog 66 #[.pointer (some ⟨g, 0, none⟩), .pointer (some ⟨gx, 0, none⟩), .pointer (some ⟨gy, 0, none⟩)] W (PutR g (numI (N * D' + N' * D) (D * D')) (denI (N * D' + N' * D) (D * D')) W) := by
  have HX := Aside0.mk hx; have HY := Aside0.mk hy; have HB := Aside0.mk hb; have L1 := Aside0.mk lN.fits; have L2 := Aside0.mk lD.fits; have L3 := Aside0.mk lN'.fits; have L4 := Aside0.mk lD'.fits; have F1 := Aside0.mk (fits_mul lN lD'); have F2 := Aside0.mk (fits_mul lN' lD); have F3 := Aside0.mk (fits_mul lD lD'); have F4 := Aside0.mk (fits_sum lN lD' lN' lD); have NE := Aside0.mk (show D * D' ≠ 0 from Int.mul_ne_zero (by have := hx.pos; omega) (by have := hy.pos; omega)); clear hx hy hb lN lD lN' lD'
  go_enter Try.func66, Try.ntmps66
  go_wp2_with (first
    | (go_at_call_of 78 gx; refine (impl_exactRat_Denom.calls gx _ _ W HX.out).mono ?_; rintro e w1 hq; have C1 := Aside0.mk hq.below; obtain ⟨g1, rfl, k1_, k2_, -⟩ := hq; have K1 := Aside0.mk k2_; clear k1_ k2_)
    | (go_at_call_of 78 gy; refine (impl_exactRat_Denom.calls gy _ _ w1 (HY.out.below C1.out)).mono ?_; rintro e w2 hq; have C2 := Aside0.mk (below_step C1.out hq.below); have P2 := Aside0.mk (K1.out.below hq.below); obtain ⟨g2, rfl, k1_, k2_, -⟩ := hq; have K2 := Aside0.mk k2_; have CA := Aside0.mk (below_alloc (below_alloc C2.out zeroI) zeroI); clear k1_ k2_))
  go_wp2_with (first
    | (go_at_call_of 76 gx; refine (impl_exactRat_Num.calls gx _ ((w2.alloc zeroI).alloc zeroI) (HX.out.below CA.out).num).mono ?_; rintro e w3 hq; have C3 := Aside0.mk (below_step CA.out hq.below); have P3 := Aside0.mk (((P2.out.alloc zeroI).alloc zeroI).below hq.below); have Q3 := Aside0.mk (((K2.out.alloc zeroI).alloc zeroI).below hq.below); have Z3 := Aside0.mk (blk_below (blk_alloc (blk_new w2 zeroI) zeroI) hq.below); have Y3 := Aside0.mk (blk_below (blk_two w2) hq.below); have S3 := Aside0.mk hq.below.size; obtain ⟨g3, rfl, k1_, k2_, -⟩ := hq; have G3 := Aside0.mk k1_; have K3 := Aside0.mk k2_; clear k1_ k2_)
    | (go_at_call_of 88 g3; refine (mul_at (w2.heap.size + 1) g3 g2 N D' w3 Y3.out K3.out Q3.out (by have := G3.out; have := size_alloc (w2.alloc zeroI) zeroI; have := size_alloc w2 zeroI; omega) (by have := K2.out.lt; omega) L1.out L4.out).mono ?_; rintro e w4 ⟨rfl, k1_, k2_⟩; have K4 := Aside0.mk k1_; have C4 := Aside0.mk (below_at C3.out k2_ (by have := C2.out.size; omega)); have P4 := Aside0.mk (P3.out.keep k2_ (notD_zeroI Y3.out) (by have := P2.out.lt; omega)); have Q4 := Aside0.mk (Q3.out.keep k2_ (notD_zeroI Y3.out) (by have := K2.out.lt; omega)); have Z4 := Aside0.mk (blk_grown Z3.out k2_ (by simp)); have C4a := Aside0.mk (below_alloc C4.out zeroI); clear k1_ k2_)
    | (go_at_call_of 76 gy; refine (impl_exactRat_Num.calls gy _ (w4.alloc zeroI) (HY.out.below C4a.out).num).mono ?_; rintro e w5 hq; have C5 := Aside0.mk (below_step C4a.out hq.below); have P5 := Aside0.mk ((P4.out.alloc zeroI).below hq.below); have Q5 := Aside0.mk ((Q4.out.alloc zeroI).below hq.below); have Z5 := Aside0.mk (blk_below (blk_alloc Z4.out zeroI) hq.below); have M5 := Aside0.mk ((K4.out.alloc zeroI).below hq.below); have Y5 := Aside0.mk (blk_below (blk_new w4 zeroI) hq.below); obtain ⟨g5, rfl, k1_, k2_, -⟩ := hq; have G5 := Aside0.mk k1_; have K5 := Aside0.mk k2_; clear k1_ k2_)
    | (go_at_call_of 88 g5; refine (mul_at w4.heap.size g5 g1 N' D w5 Y5.out K5.out P5.out (by have := G5.out; have := size_alloc w4 zeroI; omega) (by have := P4.out.lt; omega) L3.out L2.out).mono ?_; rintro e w6 ⟨rfl, k1_, k2_⟩; have K6 := Aside0.mk k1_; have C6 := Aside0.mk (below_at C5.out k2_ C4.out.size); have P6 := Aside0.mk (P5.out.keep k2_ (notD_zeroI Y5.out) (by have := P4.out.lt; omega)); have Q6 := Aside0.mk (Q5.out.keep k2_ (notD_zeroI Y5.out) (by have := Q4.out.lt; omega)); have Z6 := Aside0.mk (blk_grown Z5.out k2_ (by have := blk_lt Z4.out; simp; omega)); have M6 := Aside0.mk (M5.out.keep k2_ (notD_zeroI Y5.out) (by have := K4.out.lt; omega)); clear k1_ k2_)
    | (go_at_call 92; refine (add_at w2.heap.size (w2.heap.size + 1) w4.heap.size (N * D') (N' * D) w6 Z6.out M6.out K6.out (by omega) (by have := blk_lt Z4.out; omega) F1.out F2.out).mono ?_; rintro e w7 ⟨rfl, k1_, k2_⟩; have K7 := Aside0.mk k1_; have C7 := Aside0.mk (below_at C6.out k2_ C2.out.size); have P7 := Aside0.mk (P6.out.keep k2_ (notD_zeroI Z6.out) (by have := P2.out.lt; omega)); have Q7 := Aside0.mk (Q6.out.keep k2_ (notD_zeroI Z6.out) (by have := K2.out.lt; omega)); have C7a := Aside0.mk (below_alloc C7.out zeroI); clear k1_ k2_))
  go_wp2_with (first
    | (go_at_call 88; refine (mul_at w7.heap.size g1 g2 D D' (w7.alloc zeroI) (blk_new w7 zeroI) (P7.out.alloc zeroI) (Q7.out.alloc zeroI) (by have := P7.out.lt; omega) (by have := Q7.out.lt; omega) L2.out L4.out).mono ?_; rintro e w8 ⟨rfl, k1_, k2_⟩; have K8 := Aside0.mk k1_; have C8 := Aside0.mk (below_at C7a.out k2_ C7.out.size); have K7' := Aside0.mk ((K7.out.alloc zeroI).keep k2_ (notD_zeroI (blk_new w7 zeroI)) (by have := K7.out.lt; omega)); clear k1_ k2_)
    | (go_at_call 80; refine (impl_exactRat_SetFrac.law g w2.heap.size w7.heap.size (N * D' + N' * D) (D * D') u0 u1 u2 w8 (blk_below HB.out C8.out) K7'.out K8.out (by have := blk_lt HB.out; have := C2.out.size; omega) (by have := blk_lt HB.out; have := C7.out.size; omega) F4.out F3.out NE.out).mono ?_; rintro e w9 ⟨rfl, k1_, k2_⟩; have K9 := Aside0.mk k1_; have G9 := Aside0.mk (grown_to C8.out k2_); clear k1_ k2_))
  go_ret; exact ⟨rfl, K9.out, G9.out⟩
end Go.Proofs.Ytenlaanknlafdaa.A

/- Fractions of any size: differences, the order, what is read of a struct. Conditions: integers of at most 20 digits of 32 bits. -/
namespace Go.Proofs.Ytenlaanknlafdaa.A
set_option linter.unusedVariables false
set_option linter.unusedSimpArgs false
open Go.RowKit Go.Proofs.YtenlaanknlafdaaW.PrintWords Go.Proofs.YtenlaanknlafdaaW.PrintLast Go.Proofs.YtenlaanknlafdaaW.PrintMore
set_option maxHeartbeats 1600000 in
set_option maxRecDepth 100000 in
theorem impl_Fraction_rat.law (n d : Int) (W : World) (n0 : -9223372036854775808 ≤ n) (n1 : n ≤ 9223372036854775807) (d0 : -9223372036854775808 ≤ d) (d1 : d ≤ 9223372036854775807) (hd : d ≠ 0) :
    Calls Try.prog 56 #[.agg #[.int .i64 n, .int .i64 d]] W (NewR (numI n d) (denI n d) W) := by
  have h := Aside0.mk (show ∀ w1, Below W.heap.size W w1 → Calls Try.prog 48 #[.int .i64 n, .int .i64 d] w1 (NewR (numI n d) (denI n d) W) from fun w1 hB => (impl_newRat.law n d w1 n0 n1 d0 d1 hd).mono fun e w' h => by
    obtain ⟨g, k1, k2, k3, k4⟩ := h
    exact ⟨g, k1, Nat.le_trans hB.size k2, k3, below_step hB k4⟩)
  have hu23 := Try.underlying23; clear n0 n1 d0 d1 hd
  go_enter Try.func56, Try.ntmps56
  go_wp2_with (first
    | (go_at_call 48; refine (h.out _ (below_alloc (Below.refl _ _) _)).mono ?_; rintro e w1 ⟨g1, rfl, k_⟩; have K := Aside0.mk k_; clear k_))
  go_ret; exact ⟨g1, rfl, K.out⟩
end Go.Proofs.Ytenlaanknlafdaa.A

/- Valid fractions, and which numbers are. Conditions: integers of at most 90 digits of 32 bits. -/
namespace Go.Proofs.Ytenlaanknlafdaa.A
set_option linter.unusedVariables false
set_option linter.unusedSimpArgs false
open Go.RowKit Go.Proofs.YtenlaanknlafdaaW.PrintWords Go.Proofs.YtenlaanknlafdaaW.PrintLast Go.Proofs.YtenlaanknlafdaaW.PrintMore
theorem gcdI_loop : ∀ (m : Nat) (a b : Int), b.natAbs ≤ m → a.natAbs ≤ 9223372036854775807 → b.natAbs ≤ 9223372036854775807 → ∀ K, impl_gcd.l0 (K + (m + 1)) a b = some ((Nat.gcd a.natAbs b.natAbs : Nat) : Int) := by
  intro m
  induction m with
  | zero =>
    intro a b hb ha hb' K
    have e : b = 0 := by omega
    subst e; have hw : wrap64 (-a) = -a := w64 (by omega) (by omega)
    have hm : mx a (-a) = (a.natAbs : Int) := by unfold mx; split <;> omega
    show impl_gcd.l0 (K + 0 + 1) a 0 = _
    unfold impl_gcd.l0
    rw [if_pos rfl, hw, hm]
    simp
  | succ m ih =>
    intro a b hb ha hb' K
    by_cases h : b = 0
    · subst h; have hw : wrap64 (-a) = -a := w64 (by omega) (by omega)
      have hm : mx a (-a) = (a.natAbs : Int) := by unfold mx; split <;> omega
      rw [show K + (m + 1 + 1) = K + (m + 1) + 1 by omega]
      unfold impl_gcd.l0
      rw [if_pos rfl, hw, hm]
      simp
    · have hr : (Int.tmod a b).natAbs = a.natAbs % b.natAbs := Int.natAbs_tmod a b; have hlt : a.natAbs % b.natAbs < b.natAbs := Nat.mod_lt _ (by omega); have h2 := ih b (Int.tmod a b) (by omega) hb' (by omega) K; rw [show K + (m + 1 + 1) = K + (m + 1) + 1 by omega]
      conv => lhs; unfold impl_gcd.l0
      rw [if_neg h, h2, hr, Nat.gcd_comm b.natAbs, ← Nat.gcd_rec, Nat.gcd_comm]
def okF (n d : Int) : Bool := decide ((1 ≤ d ∧ d ≤ 1000000000000000000) ∧ (-1000000000000000000 ≤ n ∧ n ≤ 1000000000000000000) ∧ Nat.gcd n.natAbs d.natAbs = 1)
theorem okF_iff {n d : Int} : okF n d = true ↔ (1 ≤ d ∧ d ≤ 1000000000000000000) ∧ (-1000000000000000000 ≤ n ∧ n ≤ 1000000000000000000) ∧ Nat.gcd n.natAbs d.natAbs = 1 := by unfold okF; rw [decide_eq_true_iff]
theorem within_is (a b c : Int) : impl_within.f a b c = some (decide (b ≤ a ∧ a ≤ c)) := by
  unfold impl_within.f
  by_cases h : a ≥ b
  · rw [if_pos h]; have h' : b ≤ a := h; simp [h']
  · rw [if_neg h]; have h' : ¬ b ≤ a := h; simp [h']
theorem valid_is (n d : Int) : ∃ m, ∀ K, impl_ValidFraction.f (K + m) n d = some (okF n d) := by
  by_cases h1 : 1 ≤ d ∧ d ≤ 1000000000000000000
  · by_cases h2 : -1000000000000000000 ≤ n ∧ n ≤ 1000000000000000000
    · refine ⟨d.natAbs + 1, fun K => ?_⟩; have hg := gcdI_loop d.natAbs n d (Nat.le_refl _) (by omega) (by omega) K
      unfold impl_ValidFraction.f impl_gcd.f
      rw [within_is, within_is, decide_eq_true h1, decide_eq_true h2]; simp only [Option.bind_some, if_pos]; rw [hg]; simp only [Option.bind_some]
      congr 1
      unfold okF
      by_cases h3 : Nat.gcd n.natAbs d.natAbs = 1
      · rw [decide_eq_true (show _ ∧ _ ∧ _ from ⟨h1, h2, h3⟩), h3]; rfl
      · rw [decide_eq_false (fun h => h3 h.2.2), beq_eq_false_iff_ne]; omega
    · refine ⟨0, fun K => ?_⟩
      unfold impl_ValidFraction.f okF
      rw [within_is, within_is, decide_eq_true h1, decide_eq_false h2, decide_eq_false (fun h => h2 h.2.1)]
      rfl
  · refine ⟨0, fun K => ?_⟩
    unfold impl_ValidFraction.f okF
    rw [within_is, decide_eq_false h1, decide_eq_false (fun h => h1 h.1)]
    rfl
theorem impl_ValidFraction.law (n d : Int) (w : World) : Calls Try.prog 55 #[.agg #[.int .i64 n, .int .i64 d]] w fun e w' => e = .returned (.bool (okF n d)) ∧ Below w.heap.size w w' := by
  obtain ⟨m, hm⟩ := valid_is n d; exact impl_ValidFraction.calls (0 + m) n d (okF n d) w (hm 0)
def chkF (N D : Int) : Int × Int × Bool := if in64 N = true ∧ in64 D = true ∧ okF N D = true then (N, D, true) else (0, 0, false)
def retF (r : Int × Int × Bool) : Ending := .returned (.tuple #[.agg #[.int .i64 r.1, .int .i64 r.2.1], .bool r.2.2])
theorem two_cells {w : World} {n : Nat} {a b : Value} (h : w.heap[n]? = some (.cells #[a, b] 23 (0, 0))) : w.cell? ⟨n, 0, none⟩ = some a ∧ w.cell? ⟨n, 1, none⟩ = some b ∧ w.frozen? ⟨n, 0, none⟩ = false ∧ w.frozen? ⟨n, 1, none⟩ = false := ⟨(blk_cell h 0).trans rfl, (blk_cell h 1).trans rfl, blk_frozen h 0, blk_frozen h 1⟩
abbrev zeroF : Obj := .cells #[.int .i64 0, .int .i64 0] 23 (0, 0)
theorem below_set2 {W w : World} {n : Nat} (h : Below W.heap.size W w) (hn : W.heap.size ≤ n) (a b : Value) : Below W.heap.size W ((w.setCell ⟨n, 0, none⟩ a).setCell ⟨n, 1, none⟩ b) := below_at h (grown_set (grown_set (World.grownBy.refl w _) 0 a) 1 b) hn
set_option maxHeartbeats 3200000 in
set_option maxRecDepth 100000 in
theorem impl_checkedRat.no1 (g : Nat) (N D : Int) (W : World) (hx : IsR W g N D) (fN : Fits2 N) (fD : Fits2 D) (c1 : in64 N = false) :
    Calls Try.prog 47 #[.pointer (some ⟨g, 0, none⟩)] W (fun e w' => e = retF (chkF N D) ∧ Below W.heap.size W w') := by
  have HX := Aside0.mk hx; have FN := Aside0.mk fN; have FD := Aside0.mk fD; have CA := Aside0.mk (below_alloc (Below.refl W.heap.size W) zeroF); have hu23 := Try.underlying23; have hr : chkF N D = (0, 0, false) := if_neg (fun h => by rw [c1] at h; exact absurd h.1 (by decide)); rw [hr]; clear hx fN fD
  go_enter Try.func47, Try.ntmps47
  go_wp2_with (first
    | (go_at_call 76; refine (impl_exactRat_Num.calls g N _ (HX.out.below CA.out).num).mono ?_; rintro e w1 hq; have B1 := Aside0.mk (below_step CA.out hq.below); have BK1 := Aside0.mk (blk_below (blk_new W zeroF) hq.below); obtain ⟨g1, rfl, k1_, k2_, -⟩ := hq; have K1 := Aside0.mk k2_; clear k1_ k2_)
    | (go_at_call_of 77 g1; refine (impl_exactInt_IsInt64.law g1 N w1 K1.out FN.out).mono ?_; rintro e w2 ⟨rfl, hB⟩; have B2 := Aside0.mk (below_step B1.out hB); have BK2 := Aside0.mk (blk_below BK1.out hB); obtain ⟨z0, z1, z2, z3⟩ := two_cells BK2.out; clear hB))
  refine bodyPost_ret (results_ct rfl _ _ W.heap.size 23 #[.int .i64 0, .int .i64 0] (0, 0) _ rfl (by refine blk_put (cs := #[.int .i64 0, .int .i64 0]) ?_ 1 _ rfl; refine blk_put (cs := #[.int .i64 0, .int .i64 0]) ?_ 0 _ rfl; exact BK2.out) Try.underlying23 rfl (by kernel_rfl)) rfl ?_; exact ⟨rfl, below_set2 B2.out (Nat.le_refl _) _ _⟩
set_option maxHeartbeats 3200000 in
set_option maxRecDepth 100000 in
theorem impl_checkedRat.no2 (g : Nat) (N D : Int) (W : World) (hx : IsR W g N D) (fN : Fits2 N) (fD : Fits2 D) (c1 : in64 N = true) (c2 : in64 D = false) :
    Calls Try.prog 47 #[.pointer (some ⟨g, 0, none⟩)] W (fun e w' => e = retF (chkF N D) ∧ Below W.heap.size W w') := by
  have HX := Aside0.mk hx; have FN := Aside0.mk fN; have FD := Aside0.mk fD; have CA := Aside0.mk (below_alloc (Below.refl W.heap.size W) zeroF); have hu23 := Try.underlying23; have hr : chkF N D = (0, 0, false) := if_neg (fun h => by rw [c2] at h; exact absurd h.2.1 (by decide)); rw [hr]; clear hx fN fD
  go_enter Try.func47, Try.ntmps47
  go_wp2_with (first
    | (go_at_call_of 77 g3; refine (impl_exactInt_IsInt64.law g3 D w3 K3.out FD.out).mono ?_; rintro e w4 ⟨rfl, hB⟩; have B4 := Aside0.mk (below_step B3.out hB); have BK4 := Aside0.mk (blk_below BK3.out hB); obtain ⟨z0, z1, z2, z3⟩ := two_cells BK4.out; clear hB)
    | (go_at_call 78; refine (impl_exactRat_Denom.calls g N D w2 (HX.out.below B2.out)).mono ?_; rintro e w3 hq; have B3 := Aside0.mk (below_step B2.out hq.below); have BK3 := Aside0.mk (blk_below BK2.out hq.below); obtain ⟨g3, rfl, k1_, k2_, -⟩ := hq; have K3 := Aside0.mk k2_; clear k1_ k2_)
    | (go_at_call 76; refine (impl_exactRat_Num.calls g N _ (HX.out.below CA.out).num).mono ?_; rintro e w1 hq; have B1 := Aside0.mk (below_step CA.out hq.below); have BK1 := Aside0.mk (blk_below (blk_new W zeroF) hq.below); obtain ⟨g1, rfl, k1_, k2_, -⟩ := hq; have K1 := Aside0.mk k2_; clear k1_ k2_)
    | (go_at_call_of 77 g1; refine (impl_exactInt_IsInt64.law g1 N w1 K1.out FN.out).mono ?_; rintro e w2 ⟨rfl, hB⟩; have B2 := Aside0.mk (below_step B1.out hB); have BK2 := Aside0.mk (blk_below BK1.out hB); clear hB))
  refine bodyPost_ret (results_ct rfl _ _ W.heap.size 23 #[.int .i64 0, .int .i64 0] (0, 0) _ rfl (by refine blk_put (cs := #[.int .i64 0, .int .i64 0]) ?_ 1 _ rfl; refine blk_put (cs := #[.int .i64 0, .int .i64 0]) ?_ 0 _ rfl; exact BK4.out) Try.underlying23 rfl (by kernel_rfl)) rfl ?_; exact ⟨rfl, below_set2 B4.out (Nat.le_refl _) _ _⟩
set_option maxHeartbeats 3200000 in
set_option maxRecDepth 100000 in
theorem impl_checkedRat.no3 (g : Nat) (N D : Int) (W : World) (hx : IsR W g N D) (fN : Fits2 N) (fD : Fits2 D) (c1 : in64 N = true) (c2 : in64 D = true) (c3 : okF N D = false) :
    Calls Try.prog 47 #[.pointer (some ⟨g, 0, none⟩)] W (fun e w' => e = retF (chkF N D) ∧ Below W.heap.size W w') := by
  have HX := Aside0.mk hx; have FN := Aside0.mk fN; have FD := Aside0.mk fD; have CA := Aside0.mk (below_alloc (Below.refl W.heap.size W) zeroF); have hu23 := Try.underlying23; have hr : chkF N D = (0, 0, false) := if_neg (fun h => by rw [c3] at h; exact absurd h.2.2 (by decide)); rw [hr]
  have hwN : wrap64 N = N := by unfold in64 at c1; have := of_decide_eq_true c1; exact w64 this.1 this.2
  have hwD : wrap64 D = D := by unfold in64 at c2; have := of_decide_eq_true c2; exact w64 this.1 this.2
  clear hx fN fD
  go_enter Try.func47, Try.ntmps47
  go_wp2_with (first
    | (go_at_call 55; refine (impl_ValidFraction.law N D _).mono ?_; rintro e w9 ⟨rfl, hB⟩; have B9 := Aside0.mk (below_step (below_alloc B8.out _) hB); have BK9 := Aside0.mk (blk_below (blk_alloc BK8.out _) hB); obtain ⟨z0, z1, z2, z3⟩ := two_cells BK9.out; have BF9 := Aside0.mk (blk_below (blk_new w8 _) hB); obtain ⟨y0, y1, -, -⟩ := two_cells BF9.out; clear hB)
    | (go_at_call_of 79 g7; refine (impl_exactInt_Int64.law g7 D w7 K7.out FD.out.fits).mono ?_; rintro e w8 ⟨rfl, n8, h8⟩; rw [hwD]; have B8 := Aside0.mk (show Below W.heap.size W w8 by rw [h8]; exact pw_below_drewN B7.out n8); have BK8 := Aside0.mk (show w8.heap[W.heap.size]? = some zeroF by rw [h8]; exact BK7.out); clear h8)
    | (go_at_call 78; refine (impl_exactRat_Denom.calls g N D w6 (HX.out.below B6.out)).mono ?_; rintro e w7 hq; have B7 := Aside0.mk (below_step B6.out hq.below); have BK7 := Aside0.mk (blk_below BK6.out hq.below); obtain ⟨g7, rfl, k1_, k2_, -⟩ := hq; have K7 := Aside0.mk k2_; clear k1_ k2_)
    | (go_at_call_of 79 g5; refine (impl_exactInt_Int64.law g5 N w5 K5.out FN.out.fits).mono ?_; rintro e w6 ⟨rfl, n6, h6⟩; rw [hwN]; have B6 := Aside0.mk (show Below W.heap.size W w6 by rw [h6]; exact pw_below_drewN B5.out n6); have BK6 := Aside0.mk (show w6.heap[W.heap.size]? = some zeroF by rw [h6]; exact BK5.out); clear h6)
    | (go_at_call 76; refine (impl_exactRat_Num.calls g N w4 (HX.out.below B4.out).num).mono ?_; rintro e w5 hq; have B5 := Aside0.mk (below_step B4.out hq.below); have BK5 := Aside0.mk (blk_below BK4.out hq.below); obtain ⟨g5, rfl, k1_, k2_, -⟩ := hq; have K5 := Aside0.mk k2_; clear k1_ k2_)
    | (go_at_call_of 77 g3; refine (impl_exactInt_IsInt64.law g3 D w3 K3.out FD.out).mono ?_; rintro e w4 ⟨rfl, hB⟩; have B4 := Aside0.mk (below_step B3.out hB); have BK4 := Aside0.mk (blk_below BK3.out hB); clear hB)
    | (go_at_call 78; refine (impl_exactRat_Denom.calls g N D w2 (HX.out.below B2.out)).mono ?_; rintro e w3 hq; have B3 := Aside0.mk (below_step B2.out hq.below); have BK3 := Aside0.mk (blk_below BK2.out hq.below); obtain ⟨g3, rfl, k1_, k2_, -⟩ := hq; have K3 := Aside0.mk k2_; clear k1_ k2_)
    | (go_at_call 76; refine (impl_exactRat_Num.calls g N _ (HX.out.below CA.out).num).mono ?_; rintro e w1 hq; have B1 := Aside0.mk (below_step CA.out hq.below); have BK1 := Aside0.mk (blk_below (blk_new W zeroF) hq.below); obtain ⟨g1, rfl, k1_, k2_, -⟩ := hq; have K1 := Aside0.mk k2_; clear k1_ k2_)
    | (go_at_call_of 77 g1; refine (impl_exactInt_IsInt64.law g1 N w1 K1.out FN.out).mono ?_; rintro e w2 ⟨rfl, hB⟩; have B2 := Aside0.mk (below_step B1.out hB); have BK2 := Aside0.mk (blk_below BK1.out hB); clear hB))
  refine bodyPost_ret (results_ct rfl _ _ W.heap.size 23 #[.int .i64 0, .int .i64 0] (0, 0) _ rfl (by refine blk_put (cs := #[.int .i64 0, .int .i64 0]) ?_ 1 _ rfl; refine blk_put (cs := #[.int .i64 0, .int .i64 0]) ?_ 0 _ rfl; exact BK9.out) Try.underlying23 rfl (by kernel_rfl)) rfl ?_; exact ⟨rfl, below_set2 B9.out (Nat.le_refl _) _ _⟩
set_option maxHeartbeats 3200000 in
set_option maxRecDepth 100000 in
theorem impl_checkedRat.yes (g : Nat) (N D : Int) (W : World) (hx : IsR W g N D) (fN : Fits2 N) (fD : Fits2 D) (c1 : in64 N = true) (c2 : in64 D = true) (c3 : okF N D = true) :
    Calls Try.prog 47 #[.pointer (some ⟨g, 0, none⟩)] W (fun e w' => e = retF (chkF N D) ∧ Below W.heap.size W w') := by
  have HX := Aside0.mk hx; have FN := Aside0.mk fN; have FD := Aside0.mk fD; have CA := Aside0.mk (below_alloc (Below.refl W.heap.size W) zeroF); have hu23 := Try.underlying23; have hr : chkF N D = (N, D, true) := if_pos ⟨c1, c2, c3⟩; rw [hr]
  have hwN : wrap64 N = N := by unfold in64 at c1; have := of_decide_eq_true c1; exact w64 this.1 this.2
  have hwD : wrap64 D = D := by unfold in64 at c2; have := of_decide_eq_true c2; exact w64 this.1 this.2
  clear hx fN fD
  go_enter Try.func47, Try.ntmps47
  go_wp2_with (first
    | (go_at_call 55; refine (impl_ValidFraction.law N D _).mono ?_; rintro e w9 ⟨rfl, hB⟩; have B9 := Aside0.mk (below_step (below_alloc B8.out _) hB); have BK9 := Aside0.mk (blk_below (blk_alloc BK8.out _) hB); obtain ⟨z0, z1, z2, z3⟩ := two_cells BK9.out; have BF9 := Aside0.mk (blk_below (blk_new w8 _) hB); obtain ⟨y0, y1, -, -⟩ := two_cells BF9.out; clear hB)
    | (go_at_call_of 79 g7; refine (impl_exactInt_Int64.law g7 D w7 K7.out FD.out.fits).mono ?_; rintro e w8 ⟨rfl, n8, h8⟩; rw [hwD]; have B8 := Aside0.mk (show Below W.heap.size W w8 by rw [h8]; exact pw_below_drewN B7.out n8); have BK8 := Aside0.mk (show w8.heap[W.heap.size]? = some zeroF by rw [h8]; exact BK7.out); clear h8)
    | (go_at_call 78; refine (impl_exactRat_Denom.calls g N D w6 (HX.out.below B6.out)).mono ?_; rintro e w7 hq; have B7 := Aside0.mk (below_step B6.out hq.below); have BK7 := Aside0.mk (blk_below BK6.out hq.below); obtain ⟨g7, rfl, k1_, k2_, -⟩ := hq; have K7 := Aside0.mk k2_; clear k1_ k2_)
    | (go_at_call_of 79 g5; refine (impl_exactInt_Int64.law g5 N w5 K5.out FN.out.fits).mono ?_; rintro e w6 ⟨rfl, n6, h6⟩; rw [hwN]; have B6 := Aside0.mk (show Below W.heap.size W w6 by rw [h6]; exact pw_below_drewN B5.out n6); have BK6 := Aside0.mk (show w6.heap[W.heap.size]? = some zeroF by rw [h6]; exact BK5.out); clear h6)
    | (go_at_call 76; refine (impl_exactRat_Num.calls g N w4 (HX.out.below B4.out).num).mono ?_; rintro e w5 hq; have B5 := Aside0.mk (below_step B4.out hq.below); have BK5 := Aside0.mk (blk_below BK4.out hq.below); obtain ⟨g5, rfl, k1_, k2_, -⟩ := hq; have K5 := Aside0.mk k2_; clear k1_ k2_)
    | (go_at_call_of 77 g3; refine (impl_exactInt_IsInt64.law g3 D w3 K3.out FD.out).mono ?_; rintro e w4 ⟨rfl, hB⟩; have B4 := Aside0.mk (below_step B3.out hB); have BK4 := Aside0.mk (blk_below BK3.out hB); clear hB)
    | (go_at_call 78; refine (impl_exactRat_Denom.calls g N D w2 (HX.out.below B2.out)).mono ?_; rintro e w3 hq; have B3 := Aside0.mk (below_step B2.out hq.below); have BK3 := Aside0.mk (blk_below BK2.out hq.below); obtain ⟨g3, rfl, k1_, k2_, -⟩ := hq; have K3 := Aside0.mk k2_; clear k1_ k2_)
    | (go_at_call 76; refine (impl_exactRat_Num.calls g N _ (HX.out.below CA.out).num).mono ?_; rintro e w1 hq; have B1 := Aside0.mk (below_step CA.out hq.below); have BK1 := Aside0.mk (blk_below (blk_new W zeroF) hq.below); obtain ⟨g1, rfl, k1_, k2_, -⟩ := hq; have K1 := Aside0.mk k2_; clear k1_ k2_)
    | (go_at_call_of 77 g1; refine (impl_exactInt_IsInt64.law g1 N w1 K1.out FN.out).mono ?_; rintro e w2 ⟨rfl, hB⟩; have B2 := Aside0.mk (below_step B1.out hB); have BK2 := Aside0.mk (blk_below BK1.out hB); clear hB))
  refine bodyPost_ret (results_ct rfl _ _ W.heap.size 23 #[.int .i64 N, .int .i64 D] (0, 0) _ rfl (by refine blk_put (cs := #[.int .i64 N, .int .i64 0]) ?_ 1 _ rfl; refine blk_put (cs := #[.int .i64 0, .int .i64 0]) ?_ 0 _ rfl; exact BK9.out) Try.underlying23 rfl (by kernel_rfl)) rfl ?_; exact ⟨rfl, below_set2 B9.out (Nat.le_refl _) _ _⟩
theorem impl_checkedRat.law (g : Nat) (N D : Int) (W : World) (hx : IsR W g N D) (fN : Fits2 N) (fD : Fits2 D) :
    Calls Try.prog 47 #[.pointer (some ⟨g, 0, none⟩)] W (fun e w' => e = retF (chkF N D) ∧ Below W.heap.size W w') := by
  cases c1 : in64 N
  · exact impl_checkedRat.no1 g N D W hx fN fD c1
  · cases c2 : in64 D
    · exact impl_checkedRat.no2 g N D W hx fN fD c1 c2
    · cases c3 : okF N D
      · exact impl_checkedRat.no3 g N D W hx fN fD c1 c2 c3
      · exact impl_checkedRat.yes g N D W hx fN fD c1 c2 c3
end Go.Proofs.Ytenlaanknlafdaa.A

/- What the functions over fractions tell. Conditions: none beyond the sizes of the arguments. -/
namespace Go.Proofs.Ytenlaanknlafdaa.A
set_option linter.unusedVariables false
set_option linter.unusedSimpArgs false
open Go.RowKit Go.Proofs.YtenlaanknlafdaaW.PrintWords Go.Proofs.YtenlaanknlafdaaW.PrintLast Go.Proofs.YtenlaanknlafdaaW.PrintMore
def mkF (N D : Int) : Int × Int × Bool := chkF (numI N D) (denI N D)
theorem numI_le (N D : Int) : (numI N D).natAbs ≤ N.natAbs := by
  have h : (N.natAbs : Int) / gcdI N D ≤ N.natAbs := Int.ediv_le_self _ (by omega); have h0 : 0 ≤ (N.natAbs : Int) / gcdI N D := Int.ediv_nonneg (by omega) (by unfold gcdI; omega)
  unfold numI sgn
  split <;> omega
theorem denI_le (N D : Int) : (denI N D).natAbs ≤ D.natAbs := by
  have h : (D.natAbs : Int) / gcdI N D ≤ D.natAbs := Int.ediv_le_self _ (by omega); have h0 : 0 ≤ (D.natAbs : Int) / gcdI N D := Int.ediv_nonneg (by omega) (by unfold gcdI; omega)
  unfold denI
  omega
theorem fits2_num {N D : Int} (h : Fits2 N) : Fits2 (numI N D) := by
  have := numI_le N D
  unfold Fits2 at *
  generalize (4294967296 : Int) ^ 90 = P at *
  omega
theorem fits2_den {N D : Int} (h : Fits2 D) : Fits2 (denI N D) := by
  have := denI_le N D
  unfold Fits2 at *
  generalize (4294967296 : Int) ^ 90 = P at *
  omega
theorem checked_new (g : Nat) (N D : Int) (W : World) (hx : IsR W g (numI N D) (denI N D)) (fN : Fits2 N) (fD : Fits2 D) :
    Calls Try.prog 47 #[.pointer (some ⟨g, 0, none⟩)] W (fun e w' => e = .returned (.tuple #[.agg #[.int .i64 (mkF N D).1, .int .i64 (mkF N D).2.1], .bool (mkF N D).2.2]) ∧ Below W.heap.size W w') :=
  impl_checkedRat.law g (numI N D) (denI N D) W hx (fits2_num fN) (fits2_den fD)
end Go.Proofs.Ytenlaanknlafdaa.A
