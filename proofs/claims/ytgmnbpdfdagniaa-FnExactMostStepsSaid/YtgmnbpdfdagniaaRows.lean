/-
  No cell of these rows narrows 'for every input' (looked for: loops, veiled, ifaces, maps, wideKeys, modest, calm, conditions, laid).
  DERIVED. THE GIVEN ROWS OF THIS SEAT. 6 by the template 'for every input the law returns true; each argument reads behind the call as it read before'; 0 by the template 'total and deterministic' (their statements: YtgmnbpdfdagniaaTotals.lean).
  GIVEN WITH THE SEED: the statements are not yours to turn. If you find one false, say at which input.
  Laid BY PROGRAM, IN A SANDBOX (cutbox-rows.mjs): the forced cells as the released guide's own fill.sh prints them over the translation 46ccb4713ba19b99… (all of the seat's roots in one cut). By AI agents, Wed Nov 11 2026. No macro, syntax, notation, axiom, sorry.
-/
import Derived.Test.YtgmnbpdfdagniaaChecked
import GoSem.Claim
import GoSem.ClaimJoined
import GoSem.ClaimMapViews
import Derived.JoinedTies
import Derived.KernelRfl
namespace Go.Proofs.Ytgmnbpdfdagniaa
/- THE CELL 'sum', in the pinned program and in every row, IS THE sha256 OF THE DUMP (.gsa) THAT YtgmnbpdfdagniaaProg.lean LOADS. Nothing in Lean hashes anything: it is a label: what it is worth is what the hold of that sum in a sandbox is worth. -/
noncomputable def Try.pinned : Pinned := { name := "ytgmnbpdfdagniaa", sum := "46ccb4713ba19b997e65a19054a46c80c1d346297137cc568219e05578dad987", checked := Try.checked }
namespace Rows
def none {H : Type} : Left H := { results := [], args := [] }

/-- 'laws.FnExactQueueFault': WHATEVER THE INPUT: true; the input reads as it did. -/
def fnExactQueueFaultSpec : ChangeSpec := { name := "fnExactQueueFault", fn := fun _ => fun
  | [d] => { results := [.lit (.bool true)], args := [d] }
  | _ => none }
def fnExactQueueFaultRow : OpenClaim := { program := "ytgmnbpdfdagniaa", sum := "46ccb4713ba19b997e65a19054a46c80c1d346297137cc568219e05578dad987", func := "loop.example/g01153/laws.FnExactQueueFault", spec := "fnExactQueueFault", recurses := true, plainKeys := false, apart := false }
def FnExactQueueFaultSaid : Prop := fnExactQueueFaultRow.holds Try.pinned (OpenSpec.ofChange fnExactQueueFaultSpec)

/-- ITS FALSE NEIGHBOUR: 'it returns false'. Refute it at one input. -/
def fnExactQueueFaultWrong : ChangeSpec := { name := "fnExactQueueFault", fn := fun _ => fun
  | [d] => { results := [.lit (.bool false)], args := [d] }
  | _ => none }
def FnExactQueueFaultWrongFalsely : Prop := fnExactQueueFaultRow.holds Try.pinned (OpenSpec.ofChange fnExactQueueFaultWrong)

/-- 'laws.FnExactIsSafeQueue': WHATEVER THE INPUT: true; the input reads as it did. -/
def fnExactIsSafeQueueSpec : ChangeSpec := { name := "fnExactIsSafeQueue", fn := fun _ => fun
  | [d] => { results := [.lit (.bool true)], args := [d] }
  | _ => none }
def fnExactIsSafeQueueRow : OpenClaim := { program := "ytgmnbpdfdagniaa", sum := "46ccb4713ba19b997e65a19054a46c80c1d346297137cc568219e05578dad987", func := "loop.example/g01153/laws.FnExactIsSafeQueue", spec := "fnExactIsSafeQueue", recurses := true, plainKeys := false, apart := false }
def FnExactIsSafeQueueSaid : Prop := fnExactIsSafeQueueRow.holds Try.pinned (OpenSpec.ofChange fnExactIsSafeQueueSpec)

/-- ITS FALSE NEIGHBOUR: 'it returns false'. Refute it at one input. -/
def fnExactIsSafeQueueWrong : ChangeSpec := { name := "fnExactIsSafeQueue", fn := fun _ => fun
  | [d] => { results := [.lit (.bool false)], args := [d] }
  | _ => none }
def FnExactIsSafeQueueWrongFalsely : Prop := fnExactIsSafeQueueRow.holds Try.pinned (OpenSpec.ofChange fnExactIsSafeQueueWrong)

/-- 'laws.FnExactFirstFault': WHATEVER THE INPUT: true; the input reads as it did. -/
def fnExactFirstFaultSpec : ChangeSpec := { name := "fnExactFirstFault", fn := fun _ => fun
  | [d1, d2] => { results := [.lit (.bool true)], args := [d1, d2] }
  | _ => none }
def fnExactFirstFaultRow : OpenClaim := { program := "ytgmnbpdfdagniaa", sum := "46ccb4713ba19b997e65a19054a46c80c1d346297137cc568219e05578dad987", func := "loop.example/g01153/laws.FnExactFirstFault", spec := "fnExactFirstFault", unfollowed := true, recurses := true, plainKeys := false, apart := false }
def FnExactFirstFaultSaid : Prop := fnExactFirstFaultRow.holds Try.pinned (OpenSpec.ofChange fnExactFirstFaultSpec)

/-- ITS FALSE NEIGHBOUR: 'it returns false'. Refute it at one input. -/
def fnExactFirstFaultWrong : ChangeSpec := { name := "fnExactFirstFault", fn := fun _ => fun
  | [d1, d2] => { results := [.lit (.bool false)], args := [d1, d2] }
  | _ => none }
def FnExactFirstFaultWrongFalsely : Prop := fnExactFirstFaultRow.holds Try.pinned (OpenSpec.ofChange fnExactFirstFaultWrong)

/-- 'laws.FnExactIsSafeLink': WHATEVER THE INPUT: true; the input reads as it did. -/
def fnExactIsSafeLinkSpec : ChangeSpec := { name := "fnExactIsSafeLink", fn := fun _ => fun
  | [d1, d2] => { results := [.lit (.bool true)], args := [d1, d2] }
  | _ => none }
def fnExactIsSafeLinkRow : OpenClaim := { program := "ytgmnbpdfdagniaa", sum := "46ccb4713ba19b997e65a19054a46c80c1d346297137cc568219e05578dad987", func := "loop.example/g01153/laws.FnExactIsSafeLink", spec := "fnExactIsSafeLink", unfollowed := true, recurses := true, plainKeys := false, apart := false }
def FnExactIsSafeLinkSaid : Prop := fnExactIsSafeLinkRow.holds Try.pinned (OpenSpec.ofChange fnExactIsSafeLinkSpec)

/-- ITS FALSE NEIGHBOUR: 'it returns false'. Refute it at one input. -/
def fnExactIsSafeLinkWrong : ChangeSpec := { name := "fnExactIsSafeLink", fn := fun _ => fun
  | [d1, d2] => { results := [.lit (.bool false)], args := [d1, d2] }
  | _ => none }
def FnExactIsSafeLinkWrongFalsely : Prop := fnExactIsSafeLinkRow.holds Try.pinned (OpenSpec.ofChange fnExactIsSafeLinkWrong)

/-- 'laws.FnExactFewestSteps': WHATEVER THE INPUT: true; the input reads as it did. -/
def fnExactFewestStepsSpec : ChangeSpec := { name := "fnExactFewestSteps", fn := fun _ => fun
  | [d1, d2] => { results := [.lit (.bool true)], args := [d1, d2] }
  | _ => none }
def fnExactFewestStepsRow : OpenClaim := { program := "ytgmnbpdfdagniaa", sum := "46ccb4713ba19b997e65a19054a46c80c1d346297137cc568219e05578dad987", func := "loop.example/g01153/laws.FnExactFewestSteps", spec := "fnExactFewestSteps", unfollowed := true, recurses := true, plainKeys := false, apart := false }
def FnExactFewestStepsSaid : Prop := fnExactFewestStepsRow.holds Try.pinned (OpenSpec.ofChange fnExactFewestStepsSpec)

/-- ITS FALSE NEIGHBOUR: 'it returns false'. Refute it at one input. -/
def fnExactFewestStepsWrong : ChangeSpec := { name := "fnExactFewestSteps", fn := fun _ => fun
  | [d1, d2] => { results := [.lit (.bool false)], args := [d1, d2] }
  | _ => none }
def FnExactFewestStepsWrongFalsely : Prop := fnExactFewestStepsRow.holds Try.pinned (OpenSpec.ofChange fnExactFewestStepsWrong)

/-- 'laws.FnExactMostSteps': WHATEVER THE INPUT: true; the input reads as it did. -/
def fnExactMostStepsSpec : ChangeSpec := { name := "fnExactMostSteps", fn := fun _ => fun
  | [d1, d2] => { results := [.lit (.bool true)], args := [d1, d2] }
  | _ => none }
def fnExactMostStepsRow : OpenClaim := { program := "ytgmnbpdfdagniaa", sum := "46ccb4713ba19b997e65a19054a46c80c1d346297137cc568219e05578dad987", func := "loop.example/g01153/laws.FnExactMostSteps", spec := "fnExactMostSteps", unfollowed := true, recurses := true, plainKeys := false, apart := false }
def FnExactMostStepsSaid : Prop := fnExactMostStepsRow.holds Try.pinned (OpenSpec.ofChange fnExactMostStepsSpec)

/-- ITS FALSE NEIGHBOUR: 'it returns false'. Refute it at one input. -/
def fnExactMostStepsWrong : ChangeSpec := { name := "fnExactMostSteps", fn := fun _ => fun
  | [d1, d2] => { results := [.lit (.bool false)], args := [d1, d2] }
  | _ => none }
def FnExactMostStepsWrongFalsely : Prop := fnExactMostStepsRow.holds Try.pinned (OpenSpec.ofChange fnExactMostStepsWrong)

/- THE SECOND FORM. 'bulk': how many values and letters a reading holds, each counted each time it is reached (what is shared counts as often as it is met; a slice's spare places count too). A statement '..UptoSaid' is the law's where the arguments, and the package variables that the reading takes, are together of bulk at most 1048576: NARROWER than '..Said'. Prove '..Said' where nothing that the law and all that it calls make is longer than what came in: it says more and counts as full. Else prove '..UptoSaid'. A law counts once. -/
mutual
def uptoBulk {H : Type} : DataW H → Nat
  | .lit (.string bytes) => bytes.length + 1
  | .lit _ => 1
  | .nil => 1
  | .ptr d => uptoBulk d + 1
  | .slice elems spare => uptoBulkAll elems + uptoBulkAll spare + 1
  | .agg parts => uptoBulkAll parts + 1
  | .iface _ d => uptoBulk d + 1
  | .map entries => uptoBulkEntries entries + 1
  | .held _ => 1
def uptoBulkAll {H : Type} : List (DataW H) → Nat
  | [] => 0
  | d :: r => uptoBulk d + uptoBulkAll r
def uptoBulkEntries {H : Type} : List (Lit × DataW H) → Nat
  | [] => 0
  | x :: r => uptoBulkEntry x + uptoBulkEntries r
def uptoBulkEntry {H : Type} : Lit × DataW H → Nat
  | (.string bytes, d) => bytes.length + uptoBulk d + 1
  | (_, d) => uptoBulk d + 1
 end
def uptoSmall : (H : Type) → List (DataW H) → Bool := fun _ ds => decide (uptoBulkAll ds ≤ 1048576)
def OpenSpec.upto (s : _root_.Go.ChangeSpec) : _root_.Go.OpenSpec := { _root_.Go.OpenSpec.ofChange s with cond := some uptoSmall }

/-- 'laws.FnExactQueueFault', WHERE WHAT IT READS IS OF BULK AT MOST 1048576: true; the input reads as it did. -/
def fnExactQueueFaultUptoRow : OpenClaim := { program := "ytgmnbpdfdagniaa", sum := "46ccb4713ba19b997e65a19054a46c80c1d346297137cc568219e05578dad987", func := "loop.example/g01153/laws.FnExactQueueFault", spec := "fnExactQueueFault", recurses := true, plainKeys := false, apart := false, narrowed := true }
def FnExactQueueFaultUptoSaid : Prop := fnExactQueueFaultUptoRow.holds Try.pinned (OpenSpec.upto fnExactQueueFaultSpec)

/-- 'laws.FnExactIsSafeQueue', WHERE WHAT IT READS IS OF BULK AT MOST 1048576: true; the input reads as it did. -/
def fnExactIsSafeQueueUptoRow : OpenClaim := { program := "ytgmnbpdfdagniaa", sum := "46ccb4713ba19b997e65a19054a46c80c1d346297137cc568219e05578dad987", func := "loop.example/g01153/laws.FnExactIsSafeQueue", spec := "fnExactIsSafeQueue", recurses := true, plainKeys := false, apart := false, narrowed := true }
def FnExactIsSafeQueueUptoSaid : Prop := fnExactIsSafeQueueUptoRow.holds Try.pinned (OpenSpec.upto fnExactIsSafeQueueSpec)

/-- 'laws.FnExactFirstFault', WHERE WHAT IT READS IS OF BULK AT MOST 1048576: true; the input reads as it did. -/
def fnExactFirstFaultUptoRow : OpenClaim := { program := "ytgmnbpdfdagniaa", sum := "46ccb4713ba19b997e65a19054a46c80c1d346297137cc568219e05578dad987", func := "loop.example/g01153/laws.FnExactFirstFault", spec := "fnExactFirstFault", unfollowed := true, recurses := true, plainKeys := false, apart := false, narrowed := true }
def FnExactFirstFaultUptoSaid : Prop := fnExactFirstFaultUptoRow.holds Try.pinned (OpenSpec.upto fnExactFirstFaultSpec)

/-- 'laws.FnExactIsSafeLink', WHERE WHAT IT READS IS OF BULK AT MOST 1048576: true; the input reads as it did. -/
def fnExactIsSafeLinkUptoRow : OpenClaim := { program := "ytgmnbpdfdagniaa", sum := "46ccb4713ba19b997e65a19054a46c80c1d346297137cc568219e05578dad987", func := "loop.example/g01153/laws.FnExactIsSafeLink", spec := "fnExactIsSafeLink", unfollowed := true, recurses := true, plainKeys := false, apart := false, narrowed := true }
def FnExactIsSafeLinkUptoSaid : Prop := fnExactIsSafeLinkUptoRow.holds Try.pinned (OpenSpec.upto fnExactIsSafeLinkSpec)

/-- 'laws.FnExactFewestSteps', WHERE WHAT IT READS IS OF BULK AT MOST 1048576: true; the input reads as it did. -/
def fnExactFewestStepsUptoRow : OpenClaim := { program := "ytgmnbpdfdagniaa", sum := "46ccb4713ba19b997e65a19054a46c80c1d346297137cc568219e05578dad987", func := "loop.example/g01153/laws.FnExactFewestSteps", spec := "fnExactFewestSteps", unfollowed := true, recurses := true, plainKeys := false, apart := false, narrowed := true }
def FnExactFewestStepsUptoSaid : Prop := fnExactFewestStepsUptoRow.holds Try.pinned (OpenSpec.upto fnExactFewestStepsSpec)

/-- 'laws.FnExactMostSteps', WHERE WHAT IT READS IS OF BULK AT MOST 1048576: true; the input reads as it did. -/
def fnExactMostStepsUptoRow : OpenClaim := { program := "ytgmnbpdfdagniaa", sum := "46ccb4713ba19b997e65a19054a46c80c1d346297137cc568219e05578dad987", func := "loop.example/g01153/laws.FnExactMostSteps", spec := "fnExactMostSteps", unfollowed := true, recurses := true, plainKeys := false, apart := false, narrowed := true }
def FnExactMostStepsUptoSaid : Prop := fnExactMostStepsUptoRow.holds Try.pinned (OpenSpec.upto fnExactMostStepsSpec)

end Rows
end Go.Proofs.Ytgmnbpdfdagniaa
