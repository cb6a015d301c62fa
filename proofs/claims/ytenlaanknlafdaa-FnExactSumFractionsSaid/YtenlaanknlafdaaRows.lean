/-
  No cell of these rows narrows 'for every input' (looked for: loops, veiled, ifaces, maps, wideKeys, modest, calm, conditions, laid).
  DERIVED. THE GIVEN ROWS OF THIS SEAT. 12 by the template 'for every input the law returns true; each argument reads behind the call as it read before'; 0 by the template 'total and deterministic' (their statements: YtenlaanknlafdaaTotals.lean).
  GIVEN WITH THE SEED: the statements are not yours to turn. If you find one false, say at which input.
  Laid BY PROGRAM, IN A SANDBOX (cutbox-rows.mjs): the forced cells as the released guide's own fill.sh prints them over the translation c4942b81250bee9f… (all of the seat's roots in one cut). By AI agents, Wed Nov 11 2026. No macro, syntax, notation, axiom, sorry.
-/
import Derived.Test.YtenlaanknlafdaaChecked
import GoSem.Claim
import GoSem.ClaimJoined
import GoSem.ClaimMapViews
import Derived.JoinedTies
import Derived.KernelRfl
namespace Go.Proofs.Ytenlaanknlafdaa
/- THE CELL 'sum', in the pinned program and in every row, IS THE sha256 OF THE DUMP (.gsa) THAT YtenlaanknlafdaaProg.lean LOADS. Nothing in Lean hashes anything: it is a label: what it is worth is what the hold of that sum in a sandbox is worth. -/
noncomputable def Try.pinned : Pinned := { name := "ytenlaanknlafdaa", sum := "c4942b81250bee9f23e491c4439534287b17754cfa3a2c96e5d394283b6074f2", checked := Try.checked }
namespace Rows
def none {H : Type} : Left H := { results := [], args := [] }

/-- 'laws.FnExactMakeFraction': WHATEVER THE INPUT: true; the input reads as it did. -/
def fnExactMakeFractionSpec : ChangeSpec := { name := "fnExactMakeFraction", fn := fun _ => fun
  | [d1, d2] => { results := [.lit (.bool true)], args := [d1, d2] }
  | _ => none }
def fnExactMakeFractionRow : OpenClaim := { program := "ytenlaanknlafdaa", sum := "c4942b81250bee9f23e491c4439534287b17754cfa3a2c96e5d394283b6074f2", func := "loop.example/g01153/laws.FnExactMakeFraction", spec := "fnExactMakeFraction", apart := false }
def FnExactMakeFractionSaid : Prop := fnExactMakeFractionRow.holds Try.pinned (OpenSpec.ofChange fnExactMakeFractionSpec)

/-- ITS FALSE NEIGHBOUR: 'it returns false'. Refute it at one input. -/
def fnExactMakeFractionWrong : ChangeSpec := { name := "fnExactMakeFraction", fn := fun _ => fun
  | [d1, d2] => { results := [.lit (.bool false)], args := [d1, d2] }
  | _ => none }
def FnExactMakeFractionWrongFalsely : Prop := fnExactMakeFractionRow.holds Try.pinned (OpenSpec.ofChange fnExactMakeFractionWrong)

/-- 'laws.FnExactCountBounds': WHATEVER THE INPUT: true; the input reads as it did. -/
def fnExactCountBoundsSpec : ChangeSpec := { name := "fnExactCountBounds", fn := fun _ => fun
  | [d1, d2] => { results := [.lit (.bool true)], args := [d1, d2] }
  | _ => none }
def fnExactCountBoundsRow : OpenClaim := { program := "ytenlaanknlafdaa", sum := "c4942b81250bee9f23e491c4439534287b17754cfa3a2c96e5d394283b6074f2", func := "loop.example/g01153/laws.FnExactCountBounds", spec := "fnExactCountBounds", apart := false }
def FnExactCountBoundsSaid : Prop := fnExactCountBoundsRow.holds Try.pinned (OpenSpec.ofChange fnExactCountBoundsSpec)

/-- ITS FALSE NEIGHBOUR: 'it returns false'. Refute it at one input. -/
def fnExactCountBoundsWrong : ChangeSpec := { name := "fnExactCountBounds", fn := fun _ => fun
  | [d1, d2] => { results := [.lit (.bool false)], args := [d1, d2] }
  | _ => none }
def FnExactCountBoundsWrongFalsely : Prop := fnExactCountBoundsRow.holds Try.pinned (OpenSpec.ofChange fnExactCountBoundsWrong)

/-- 'laws.FnExactSpanBounds': WHATEVER THE INPUT: true; the input reads as it did. -/
def fnExactSpanBoundsSpec : ChangeSpec := { name := "fnExactSpanBounds", fn := fun _ => fun
  | [d1, d2, d3] => { results := [.lit (.bool true)], args := [d1, d2, d3] }
  | _ => none }
def fnExactSpanBoundsRow : OpenClaim := { program := "ytenlaanknlafdaa", sum := "c4942b81250bee9f23e491c4439534287b17754cfa3a2c96e5d394283b6074f2", func := "loop.example/g01153/laws.FnExactSpanBounds", spec := "fnExactSpanBounds", apart := false }
def FnExactSpanBoundsSaid : Prop := fnExactSpanBoundsRow.holds Try.pinned (OpenSpec.ofChange fnExactSpanBoundsSpec)

/-- ITS FALSE NEIGHBOUR: 'it returns false'. Refute it at one input. -/
def fnExactSpanBoundsWrong : ChangeSpec := { name := "fnExactSpanBounds", fn := fun _ => fun
  | [d1, d2, d3] => { results := [.lit (.bool false)], args := [d1, d2, d3] }
  | _ => none }
def FnExactSpanBoundsWrongFalsely : Prop := fnExactSpanBoundsRow.holds Try.pinned (OpenSpec.ofChange fnExactSpanBoundsWrong)

/-- 'laws.FnExactPulseError': WHATEVER THE INPUT: true; the input reads as it did. -/
def fnExactPulseErrorSpec : ChangeSpec := { name := "fnExactPulseError", fn := fun _ => fun
  | [d1, d2, d3] => { results := [.lit (.bool true)], args := [d1, d2, d3] }
  | _ => none }
def fnExactPulseErrorRow : OpenClaim := { program := "ytenlaanknlafdaa", sum := "c4942b81250bee9f23e491c4439534287b17754cfa3a2c96e5d394283b6074f2", func := "loop.example/g01153/laws.FnExactPulseError", spec := "fnExactPulseError", apart := false }
def FnExactPulseErrorSaid : Prop := fnExactPulseErrorRow.holds Try.pinned (OpenSpec.ofChange fnExactPulseErrorSpec)

/-- ITS FALSE NEIGHBOUR: 'it returns false'. Refute it at one input. -/
def fnExactPulseErrorWrong : ChangeSpec := { name := "fnExactPulseError", fn := fun _ => fun
  | [d1, d2, d3] => { results := [.lit (.bool false)], args := [d1, d2, d3] }
  | _ => none }
def FnExactPulseErrorWrongFalsely : Prop := fnExactPulseErrorRow.holds Try.pinned (OpenSpec.ofChange fnExactPulseErrorWrong)

/-- 'laws.FnExactCompareFractions': WHATEVER THE INPUT: true; the input reads as it did. -/
def fnExactCompareFractionsSpec : ChangeSpec := { name := "fnExactCompareFractions", fn := fun _ => fun
  | [d1, d2] => { results := [.lit (.bool true)], args := [d1, d2] }
  | _ => none }
def fnExactCompareFractionsRow : OpenClaim := { program := "ytenlaanknlafdaa", sum := "c4942b81250bee9f23e491c4439534287b17754cfa3a2c96e5d394283b6074f2", func := "loop.example/g01153/laws.FnExactCompareFractions", spec := "fnExactCompareFractions", apart := false }
def FnExactCompareFractionsSaid : Prop := fnExactCompareFractionsRow.holds Try.pinned (OpenSpec.ofChange fnExactCompareFractionsSpec)

/-- ITS FALSE NEIGHBOUR: 'it returns false'. Refute it at one input. -/
def fnExactCompareFractionsWrong : ChangeSpec := { name := "fnExactCompareFractions", fn := fun _ => fun
  | [d1, d2] => { results := [.lit (.bool false)], args := [d1, d2] }
  | _ => none }
def FnExactCompareFractionsWrongFalsely : Prop := fnExactCompareFractionsRow.holds Try.pinned (OpenSpec.ofChange fnExactCompareFractionsWrong)

/-- 'laws.FnExactBestRatio': WHATEVER THE INPUT: true; the input reads as it did. -/
def fnExactBestRatioSpec : ChangeSpec := { name := "fnExactBestRatio", fn := fun _ => fun
  | [d1, d2] => { results := [.lit (.bool true)], args := [d1, d2] }
  | _ => none }
def fnExactBestRatioRow : OpenClaim := { program := "ytenlaanknlafdaa", sum := "c4942b81250bee9f23e491c4439534287b17754cfa3a2c96e5d394283b6074f2", func := "loop.example/g01153/laws.FnExactBestRatio", spec := "fnExactBestRatio", unfollowed := true, recurses := true, apart := false }
def FnExactBestRatioSaid : Prop := fnExactBestRatioRow.holds Try.pinned (OpenSpec.ofChange fnExactBestRatioSpec)

/-- ITS FALSE NEIGHBOUR: 'it returns false'. Refute it at one input. -/
def fnExactBestRatioWrong : ChangeSpec := { name := "fnExactBestRatio", fn := fun _ => fun
  | [d1, d2] => { results := [.lit (.bool false)], args := [d1, d2] }
  | _ => none }
def FnExactBestRatioWrongFalsely : Prop := fnExactBestRatioRow.holds Try.pinned (OpenSpec.ofChange fnExactBestRatioWrong)

/-- 'laws.FnExactDivFractions': WHATEVER THE INPUT: true; the input reads as it did. -/
def fnExactDivFractionsSpec : ChangeSpec := { name := "fnExactDivFractions", fn := fun _ => fun
  | [d1, d2] => { results := [.lit (.bool true)], args := [d1, d2] }
  | _ => none }
def fnExactDivFractionsRow : OpenClaim := { program := "ytenlaanknlafdaa", sum := "c4942b81250bee9f23e491c4439534287b17754cfa3a2c96e5d394283b6074f2", func := "loop.example/g01153/laws.FnExactDivFractions", spec := "fnExactDivFractions", apart := false }
def FnExactDivFractionsSaid : Prop := fnExactDivFractionsRow.holds Try.pinned (OpenSpec.ofChange fnExactDivFractionsSpec)

/-- ITS FALSE NEIGHBOUR: 'it returns false'. Refute it at one input. -/
def fnExactDivFractionsWrong : ChangeSpec := { name := "fnExactDivFractions", fn := fun _ => fun
  | [d1, d2] => { results := [.lit (.bool false)], args := [d1, d2] }
  | _ => none }
def FnExactDivFractionsWrongFalsely : Prop := fnExactDivFractionsRow.holds Try.pinned (OpenSpec.ofChange fnExactDivFractionsWrong)

/-- 'laws.FnExactMulFractions': WHATEVER THE INPUT: true; the input reads as it did. -/
def fnExactMulFractionsSpec : ChangeSpec := { name := "fnExactMulFractions", fn := fun _ => fun
  | [d1, d2] => { results := [.lit (.bool true)], args := [d1, d2] }
  | _ => none }
def fnExactMulFractionsRow : OpenClaim := { program := "ytenlaanknlafdaa", sum := "c4942b81250bee9f23e491c4439534287b17754cfa3a2c96e5d394283b6074f2", func := "loop.example/g01153/laws.FnExactMulFractions", spec := "fnExactMulFractions", apart := false }
def FnExactMulFractionsSaid : Prop := fnExactMulFractionsRow.holds Try.pinned (OpenSpec.ofChange fnExactMulFractionsSpec)

/-- ITS FALSE NEIGHBOUR: 'it returns false'. Refute it at one input. -/
def fnExactMulFractionsWrong : ChangeSpec := { name := "fnExactMulFractions", fn := fun _ => fun
  | [d1, d2] => { results := [.lit (.bool false)], args := [d1, d2] }
  | _ => none }
def FnExactMulFractionsWrongFalsely : Prop := fnExactMulFractionsRow.holds Try.pinned (OpenSpec.ofChange fnExactMulFractionsWrong)

/-- 'laws.FnExactAddFractions': WHATEVER THE INPUT: true; the input reads as it did. -/
def fnExactAddFractionsSpec : ChangeSpec := { name := "fnExactAddFractions", fn := fun _ => fun
  | [d1, d2] => { results := [.lit (.bool true)], args := [d1, d2] }
  | _ => none }
def fnExactAddFractionsRow : OpenClaim := { program := "ytenlaanknlafdaa", sum := "c4942b81250bee9f23e491c4439534287b17754cfa3a2c96e5d394283b6074f2", func := "loop.example/g01153/laws.FnExactAddFractions", spec := "fnExactAddFractions", apart := false }
def FnExactAddFractionsSaid : Prop := fnExactAddFractionsRow.holds Try.pinned (OpenSpec.ofChange fnExactAddFractionsSpec)

/-- ITS FALSE NEIGHBOUR: 'it returns false'. Refute it at one input. -/
def fnExactAddFractionsWrong : ChangeSpec := { name := "fnExactAddFractions", fn := fun _ => fun
  | [d1, d2] => { results := [.lit (.bool false)], args := [d1, d2] }
  | _ => none }
def FnExactAddFractionsWrongFalsely : Prop := fnExactAddFractionsRow.holds Try.pinned (OpenSpec.ofChange fnExactAddFractionsWrong)

/-- 'laws.FnExactSubFractions': WHATEVER THE INPUT: true; the input reads as it did. -/
def fnExactSubFractionsSpec : ChangeSpec := { name := "fnExactSubFractions", fn := fun _ => fun
  | [d1, d2] => { results := [.lit (.bool true)], args := [d1, d2] }
  | _ => none }
def fnExactSubFractionsRow : OpenClaim := { program := "ytenlaanknlafdaa", sum := "c4942b81250bee9f23e491c4439534287b17754cfa3a2c96e5d394283b6074f2", func := "loop.example/g01153/laws.FnExactSubFractions", spec := "fnExactSubFractions", apart := false }
def FnExactSubFractionsSaid : Prop := fnExactSubFractionsRow.holds Try.pinned (OpenSpec.ofChange fnExactSubFractionsSpec)

/-- ITS FALSE NEIGHBOUR: 'it returns false'. Refute it at one input. -/
def fnExactSubFractionsWrong : ChangeSpec := { name := "fnExactSubFractions", fn := fun _ => fun
  | [d1, d2] => { results := [.lit (.bool false)], args := [d1, d2] }
  | _ => none }
def FnExactSubFractionsWrongFalsely : Prop := fnExactSubFractionsRow.holds Try.pinned (OpenSpec.ofChange fnExactSubFractionsWrong)

/-- 'laws.FnExactFailChance': WHATEVER THE INPUT: true; the input reads as it did. -/
def fnExactFailChanceSpec : ChangeSpec := { name := "fnExactFailChance", fn := fun _ => fun
  | [d1, d2] => { results := [.lit (.bool true)], args := [d1, d2] }
  | _ => none }
def fnExactFailChanceRow : OpenClaim := { program := "ytenlaanknlafdaa", sum := "c4942b81250bee9f23e491c4439534287b17754cfa3a2c96e5d394283b6074f2", func := "loop.example/g01153/laws.FnExactFailChance", spec := "fnExactFailChance", apart := false }
def FnExactFailChanceSaid : Prop := fnExactFailChanceRow.holds Try.pinned (OpenSpec.ofChange fnExactFailChanceSpec)

/-- ITS FALSE NEIGHBOUR: 'it returns false'. Refute it at one input. -/
def fnExactFailChanceWrong : ChangeSpec := { name := "fnExactFailChance", fn := fun _ => fun
  | [d1, d2] => { results := [.lit (.bool false)], args := [d1, d2] }
  | _ => none }
def FnExactFailChanceWrongFalsely : Prop := fnExactFailChanceRow.holds Try.pinned (OpenSpec.ofChange fnExactFailChanceWrong)

/-- 'laws.FnExactSumFractions': WHATEVER THE INPUT: true; the input reads as it did. -/
def fnExactSumFractionsSpec : ChangeSpec := { name := "fnExactSumFractions", fn := fun _ => fun
  | [d] => { results := [.lit (.bool true)], args := [d] }
  | _ => none }
def fnExactSumFractionsRow : OpenClaim := { program := "ytenlaanknlafdaa", sum := "c4942b81250bee9f23e491c4439534287b17754cfa3a2c96e5d394283b6074f2", func := "loop.example/g01153/laws.FnExactSumFractions", spec := "fnExactSumFractions", unfollowed := true, recurses := true, apart := false }
def FnExactSumFractionsSaid : Prop := fnExactSumFractionsRow.holds Try.pinned (OpenSpec.ofChange fnExactSumFractionsSpec)

/-- ITS FALSE NEIGHBOUR: 'it returns false'. Refute it at one input. -/
def fnExactSumFractionsWrong : ChangeSpec := { name := "fnExactSumFractions", fn := fun _ => fun
  | [d] => { results := [.lit (.bool false)], args := [d] }
  | _ => none }
def FnExactSumFractionsWrongFalsely : Prop := fnExactSumFractionsRow.holds Try.pinned (OpenSpec.ofChange fnExactSumFractionsWrong)

/- THE SECOND FORM. 'bulk': how many values and letters a reading holds, each counted each time it is reached (what is shared counts as often as it is met; a slice's spare places count too). A statement '..UptoSaid' is the law's where the arguments, and the package variables that the reading takes, are together of bulk at most 1048576: NARROWER than '..Said'. Prove '..Said' where nothing that the law and all that it calls make is longer than what came in: it says more and counts as full. Else prove '..UptoSaid'. A law counts once. -/
mutual
def uptoBulk {H : Type} : DataW H → Nat
  | .lit (.string bytes) => bytes.length + 1
  | .lit _ => 1
  | .nil => 1
  | .ptr d => uptoBulk d + 1
  | .slice elems spare => uptoBulkAll elems + uptoBulkAll spare + 1
  | .agg parts => uptoBulkAll parts + 1
  | .iface _ d => uptoBulk d + 1
  | .map entries => uptoBulkEntries entries + 1
  | .held _ => 1
def uptoBulkAll {H : Type} : List (DataW H) → Nat
  | [] => 0
  | d :: r => uptoBulk d + uptoBulkAll r
def uptoBulkEntries {H : Type} : List (Lit × DataW H) → Nat
  | [] => 0
  | x :: r => uptoBulkEntry x + uptoBulkEntries r
def uptoBulkEntry {H : Type} : Lit × DataW H → Nat
  | (.string bytes, d) => bytes.length + uptoBulk d + 1
  | (_, d) => uptoBulk d + 1
 end
def uptoSmall : (H : Type) → List (DataW H) → Bool := fun _ ds => decide (uptoBulkAll ds ≤ 1048576)
def OpenSpec.upto (s : _root_.Go.ChangeSpec) : _root_.Go.OpenSpec := { _root_.Go.OpenSpec.ofChange s with cond := some uptoSmall }

/-- 'laws.FnExactMakeFraction', WHERE WHAT IT READS IS OF BULK AT MOST 1048576: true; the input reads as it did. -/
def fnExactMakeFractionUptoRow : OpenClaim := { program := "ytenlaanknlafdaa", sum := "c4942b81250bee9f23e491c4439534287b17754cfa3a2c96e5d394283b6074f2", func := "loop.example/g01153/laws.FnExactMakeFraction", spec := "fnExactMakeFraction", apart := false, narrowed := true }
def FnExactMakeFractionUptoSaid : Prop := fnExactMakeFractionUptoRow.holds Try.pinned (OpenSpec.upto fnExactMakeFractionSpec)

/-- 'laws.FnExactCountBounds', WHERE WHAT IT READS IS OF BULK AT MOST 1048576: true; the input reads as it did. -/
def fnExactCountBoundsUptoRow : OpenClaim := { program := "ytenlaanknlafdaa", sum := "c4942b81250bee9f23e491c4439534287b17754cfa3a2c96e5d394283b6074f2", func := "loop.example/g01153/laws.FnExactCountBounds", spec := "fnExactCountBounds", apart := false, narrowed := true }
def FnExactCountBoundsUptoSaid : Prop := fnExactCountBoundsUptoRow.holds Try.pinned (OpenSpec.upto fnExactCountBoundsSpec)

/-- 'laws.FnExactSpanBounds', WHERE WHAT IT READS IS OF BULK AT MOST 1048576: true; the input reads as it did. -/
def fnExactSpanBoundsUptoRow : OpenClaim := { program := "ytenlaanknlafdaa", sum := "c4942b81250bee9f23e491c4439534287b17754cfa3a2c96e5d394283b6074f2", func := "loop.example/g01153/laws.FnExactSpanBounds", spec := "fnExactSpanBounds", apart := false, narrowed := true }
def FnExactSpanBoundsUptoSaid : Prop := fnExactSpanBoundsUptoRow.holds Try.pinned (OpenSpec.upto fnExactSpanBoundsSpec)

/-- 'laws.FnExactPulseError', WHERE WHAT IT READS IS OF BULK AT MOST 1048576: true; the input reads as it did. -/
def fnExactPulseErrorUptoRow : OpenClaim := { program := "ytenlaanknlafdaa", sum := "c4942b81250bee9f23e491c4439534287b17754cfa3a2c96e5d394283b6074f2", func := "loop.example/g01153/laws.FnExactPulseError", spec := "fnExactPulseError", apart := false, narrowed := true }
def FnExactPulseErrorUptoSaid : Prop := fnExactPulseErrorUptoRow.holds Try.pinned (OpenSpec.upto fnExactPulseErrorSpec)

/-- 'laws.FnExactCompareFractions', WHERE WHAT IT READS IS OF BULK AT MOST 1048576: true; the input reads as it did. -/
def fnExactCompareFractionsUptoRow : OpenClaim := { program := "ytenlaanknlafdaa", sum := "c4942b81250bee9f23e491c4439534287b17754cfa3a2c96e5d394283b6074f2", func := "loop.example/g01153/laws.FnExactCompareFractions", spec := "fnExactCompareFractions", apart := false, narrowed := true }
def FnExactCompareFractionsUptoSaid : Prop := fnExactCompareFractionsUptoRow.holds Try.pinned (OpenSpec.upto fnExactCompareFractionsSpec)

/-- 'laws.FnExactBestRatio', WHERE WHAT IT READS IS OF BULK AT MOST 1048576: true; the input reads as it did. -/
def fnExactBestRatioUptoRow : OpenClaim := { program := "ytenlaanknlafdaa", sum := "c4942b81250bee9f23e491c4439534287b17754cfa3a2c96e5d394283b6074f2", func := "loop.example/g01153/laws.FnExactBestRatio", spec := "fnExactBestRatio", unfollowed := true, recurses := true, apart := false, narrowed := true }
def FnExactBestRatioUptoSaid : Prop := fnExactBestRatioUptoRow.holds Try.pinned (OpenSpec.upto fnExactBestRatioSpec)

/-- 'laws.FnExactDivFractions', WHERE WHAT IT READS IS OF BULK AT MOST 1048576: true; the input reads as it did. -/
def fnExactDivFractionsUptoRow : OpenClaim := { program := "ytenlaanknlafdaa", sum := "c4942b81250bee9f23e491c4439534287b17754cfa3a2c96e5d394283b6074f2", func := "loop.example/g01153/laws.FnExactDivFractions", spec := "fnExactDivFractions", apart := false, narrowed := true }
def FnExactDivFractionsUptoSaid : Prop := fnExactDivFractionsUptoRow.holds Try.pinned (OpenSpec.upto fnExactDivFractionsSpec)

/-- 'laws.FnExactMulFractions', WHERE WHAT IT READS IS OF BULK AT MOST 1048576: true; the input reads as it did. -/
def fnExactMulFractionsUptoRow : OpenClaim := { program := "ytenlaanknlafdaa", sum := "c4942b81250bee9f23e491c4439534287b17754cfa3a2c96e5d394283b6074f2", func := "loop.example/g01153/laws.FnExactMulFractions", spec := "fnExactMulFractions", apart := false, narrowed := true }
def FnExactMulFractionsUptoSaid : Prop := fnExactMulFractionsUptoRow.holds Try.pinned (OpenSpec.upto fnExactMulFractionsSpec)

/-- 'laws.FnExactAddFractions', WHERE WHAT IT READS IS OF BULK AT MOST 1048576: true; the input reads as it did. -/
def fnExactAddFractionsUptoRow : OpenClaim := { program := "ytenlaanknlafdaa", sum := "c4942b81250bee9f23e491c4439534287b17754cfa3a2c96e5d394283b6074f2", func := "loop.example/g01153/laws.FnExactAddFractions", spec := "fnExactAddFractions", apart := false, narrowed := true }
def FnExactAddFractionsUptoSaid : Prop := fnExactAddFractionsUptoRow.holds Try.pinned (OpenSpec.upto fnExactAddFractionsSpec)

/-- 'laws.FnExactSubFractions', WHERE WHAT IT READS IS OF BULK AT MOST 1048576: true; the input reads as it did. -/
def fnExactSubFractionsUptoRow : OpenClaim := { program := "ytenlaanknlafdaa", sum := "c4942b81250bee9f23e491c4439534287b17754cfa3a2c96e5d394283b6074f2", func := "loop.example/g01153/laws.FnExactSubFractions", spec := "fnExactSubFractions", apart := false, narrowed := true }
def FnExactSubFractionsUptoSaid : Prop := fnExactSubFractionsUptoRow.holds Try.pinned (OpenSpec.upto fnExactSubFractionsSpec)

/-- 'laws.FnExactFailChance', WHERE WHAT IT READS IS OF BULK AT MOST 1048576: true; the input reads as it did. -/
def fnExactFailChanceUptoRow : OpenClaim := { program := "ytenlaanknlafdaa", sum := "c4942b81250bee9f23e491c4439534287b17754cfa3a2c96e5d394283b6074f2", func := "loop.example/g01153/laws.FnExactFailChance", spec := "fnExactFailChance", apart := false, narrowed := true }
def FnExactFailChanceUptoSaid : Prop := fnExactFailChanceUptoRow.holds Try.pinned (OpenSpec.upto fnExactFailChanceSpec)

/-- 'laws.FnExactSumFractions', WHERE WHAT IT READS IS OF BULK AT MOST 1048576: true; the input reads as it did. -/
def fnExactSumFractionsUptoRow : OpenClaim := { program := "ytenlaanknlafdaa", sum := "c4942b81250bee9f23e491c4439534287b17754cfa3a2c96e5d394283b6074f2", func := "loop.example/g01153/laws.FnExactSumFractions", spec := "fnExactSumFractions", unfollowed := true, recurses := true, apart := false, narrowed := true }
def FnExactSumFractionsUptoSaid : Prop := fnExactSumFractionsUptoRow.holds Try.pinned (OpenSpec.upto fnExactSumFractionsSpec)

end Rows
end Go.Proofs.Ytenlaanknlafdaa
