/-
  No cell of these rows narrows 'for every input' (looked for: loops, veiled, ifaces, maps, wideKeys, modest, calm, conditions, laid).
  DERIVED. THE GIVEN ROWS OF THIS SEAT. 8 by the template 'for every input the law returns true; each argument reads behind the call as it read before'; 0 by the template 'total and deterministic' (their statements: YtfoedfigjcmjbaaTotals.lean).
  GIVEN WITH THE SEED: the statements are not yours to turn. If you find one false, say at which input.
  Laid BY PROGRAM, IN A SANDBOX (cutbox-rows.mjs): the forced cells as the released guide's own fill.sh prints them over the translation d7eb82dc8800a347… (all of the seat's roots in one cut). By AI agents, Wed Nov 11 2026. No macro, syntax, notation, axiom, sorry.
-/
import Derived.Test.YtfoedfigjcmjbaaChecked
import GoSem.Claim
import GoSem.ClaimJoined
import GoSem.ClaimMapViews
import Derived.JoinedTies
import Derived.KernelRfl
namespace Go.Proofs.Ytfoedfigjcmjbaa
/- THE CELL 'sum', in the pinned program and in every row, IS THE sha256 OF THE DUMP (.gsa) THAT YtfoedfigjcmjbaaProg.lean LOADS. Nothing in Lean hashes anything: it is a label: what it is worth is what the hold of that sum in a sandbox is worth. -/
noncomputable def Try.pinned : Pinned := { name := "ytfoedfigjcmjbaa", sum := "d7eb82dc8800a3479fd1801c92fd49b36452869cb69711a6b15fbd39602c9122", checked := Try.checked }
namespace Rows
def none {H : Type} : Left H := { results := [], args := [] }

/-- 'laws.FnExactEvenPhases': WHATEVER THE INPUT: true; the input reads as it did. -/
def fnExactEvenPhasesSpec : ChangeSpec := { name := "fnExactEvenPhases", fn := fun _ => fun
  | [d1, d2] => { results := [.lit (.bool true)], args := [d1, d2] }
  | _ => none }
def fnExactEvenPhasesRow : OpenClaim := { program := "ytfoedfigjcmjbaa", sum := "d7eb82dc8800a3479fd1801c92fd49b36452869cb69711a6b15fbd39602c9122", func := "loop.example/g01153/laws.FnExactEvenPhases", spec := "fnExactEvenPhases", apart := false }
def FnExactEvenPhasesSaid : Prop := fnExactEvenPhasesRow.holds Try.pinned (OpenSpec.ofChange fnExactEvenPhasesSpec)

/-- ITS FALSE NEIGHBOUR: 'it returns false'. Refute it at one input. -/
def fnExactEvenPhasesWrong : ChangeSpec := { name := "fnExactEvenPhases", fn := fun _ => fun
  | [d1, d2] => { results := [.lit (.bool false)], args := [d1, d2] }
  | _ => none }
def FnExactEvenPhasesWrongFalsely : Prop := fnExactEvenPhasesRow.holds Try.pinned (OpenSpec.ofChange fnExactEvenPhasesWrong)

/-- 'laws.FnBetween': WHATEVER THE INPUT: true; the input reads as it did. -/
def fnBetweenSpec : ChangeSpec := { name := "fnBetween", fn := fun _ => fun
  | [d1, d2] => { results := [.lit (.bool true)], args := [d1, d2] }
  | _ => none }
def fnBetweenRow : OpenClaim := { program := "ytfoedfigjcmjbaa", sum := "d7eb82dc8800a3479fd1801c92fd49b36452869cb69711a6b15fbd39602c9122", func := "loop.example/g01153/laws.FnBetween", spec := "fnBetween", apart := false }
def FnBetweenSaid : Prop := fnBetweenRow.holds Try.pinned (OpenSpec.ofChange fnBetweenSpec)

/-- ITS FALSE NEIGHBOUR: 'it returns false'. Refute it at one input. -/
def fnBetweenWrong : ChangeSpec := { name := "fnBetween", fn := fun _ => fun
  | [d1, d2] => { results := [.lit (.bool false)], args := [d1, d2] }
  | _ => none }
def FnBetweenWrongFalsely : Prop := fnBetweenRow.holds Try.pinned (OpenSpec.ofChange fnBetweenWrong)

/-- 'laws.FnClockEdges': WHATEVER THE INPUT: true; the input reads as it did. -/
def fnClockEdgesSpec : ChangeSpec := { name := "fnClockEdges", fn := fun _ => fun
  | [d1, d2] => { results := [.lit (.bool true)], args := [d1, d2] }
  | _ => none }
def fnClockEdgesRow : OpenClaim := { program := "ytfoedfigjcmjbaa", sum := "d7eb82dc8800a3479fd1801c92fd49b36452869cb69711a6b15fbd39602c9122", func := "loop.example/g01153/laws.FnClockEdges", spec := "fnClockEdges", unfollowed := true, recurses := true, apart := false }
def FnClockEdgesSaid : Prop := fnClockEdgesRow.holds Try.pinned (OpenSpec.ofChange fnClockEdgesSpec)

/-- ITS FALSE NEIGHBOUR: 'it returns false'. Refute it at one input. -/
def fnClockEdgesWrong : ChangeSpec := { name := "fnClockEdges", fn := fun _ => fun
  | [d1, d2] => { results := [.lit (.bool false)], args := [d1, d2] }
  | _ => none }
def FnClockEdgesWrongFalsely : Prop := fnClockEdgesRow.holds Try.pinned (OpenSpec.ofChange fnClockEdgesWrong)

/-- 'laws.FnExactCountsBetween': WHATEVER THE INPUT: true; the input reads as it did. -/
def fnExactCountsBetweenSpec : ChangeSpec := { name := "fnExactCountsBetween", fn := fun _ => fun
  | [d1, d2, d3, d4] => { results := [.lit (.bool true)], args := [d1, d2, d3, d4] }
  | _ => none }
def fnExactCountsBetweenRow : OpenClaim := { program := "ytfoedfigjcmjbaa", sum := "d7eb82dc8800a3479fd1801c92fd49b36452869cb69711a6b15fbd39602c9122", func := "loop.example/g01153/laws.FnExactCountsBetween", spec := "fnExactCountsBetween", apart := false }
def FnExactCountsBetweenSaid : Prop := fnExactCountsBetweenRow.holds Try.pinned (OpenSpec.ofChange fnExactCountsBetweenSpec)

/-- ITS FALSE NEIGHBOUR: 'it returns false'. Refute it at one input. -/
def fnExactCountsBetweenWrong : ChangeSpec := { name := "fnExactCountsBetween", fn := fun _ => fun
  | [d1, d2, d3, d4] => { results := [.lit (.bool false)], args := [d1, d2, d3, d4] }
  | _ => none }
def FnExactCountsBetweenWrongFalsely : Prop := fnExactCountsBetweenRow.holds Try.pinned (OpenSpec.ofChange fnExactCountsBetweenWrong)

/-- 'laws.FnWaits': WHATEVER THE INPUT: true; the input reads as it did. -/
def fnWaitsSpec : ChangeSpec := { name := "fnWaits", fn := fun _ => fun
  | [d1, d2] => { results := [.lit (.bool true)], args := [d1, d2] }
  | _ => none }
def fnWaitsRow : OpenClaim := { program := "ytfoedfigjcmjbaa", sum := "d7eb82dc8800a3479fd1801c92fd49b36452869cb69711a6b15fbd39602c9122", func := "loop.example/g01153/laws.FnWaits", spec := "fnWaits", unfollowed := true, recurses := true, apart := false }
def FnWaitsSaid : Prop := fnWaitsRow.holds Try.pinned (OpenSpec.ofChange fnWaitsSpec)

/-- ITS FALSE NEIGHBOUR: 'it returns false'. Refute it at one input. -/
def fnWaitsWrong : ChangeSpec := { name := "fnWaits", fn := fun _ => fun
  | [d1, d2] => { results := [.lit (.bool false)], args := [d1, d2] }
  | _ => none }
def FnWaitsWrongFalsely : Prop := fnWaitsRow.holds Try.pinned (OpenSpec.ofChange fnWaitsWrong)

/-- 'laws.FnExactCommonPeriod': WHATEVER THE INPUT: true; the input reads as it did. -/
def fnExactCommonPeriodSpec : ChangeSpec := { name := "fnExactCommonPeriod", fn := fun _ => fun
  | [d] => { results := [.lit (.bool true)], args := [d] }
  | _ => none }
def fnExactCommonPeriodRow : OpenClaim := { program := "ytfoedfigjcmjbaa", sum := "d7eb82dc8800a3479fd1801c92fd49b36452869cb69711a6b15fbd39602c9122", func := "loop.example/g01153/laws.FnExactCommonPeriod", spec := "fnExactCommonPeriod", unfollowed := true, recurses := true, apart := false }
def FnExactCommonPeriodSaid : Prop := fnExactCommonPeriodRow.holds Try.pinned (OpenSpec.ofChange fnExactCommonPeriodSpec)

/-- ITS FALSE NEIGHBOUR: 'it returns false'. Refute it at one input. -/
def fnExactCommonPeriodWrong : ChangeSpec := { name := "fnExactCommonPeriod", fn := fun _ => fun
  | [d] => { results := [.lit (.bool false)], args := [d] }
  | _ => none }
def FnExactCommonPeriodWrongFalsely : Prop := fnExactCommonPeriodRow.holds Try.pinned (OpenSpec.ofChange fnExactCommonPeriodWrong)

/-- 'laws.FnMeetings': WHATEVER THE INPUT: true; the input reads as it did. -/
def fnMeetingsSpec : ChangeSpec := { name := "fnMeetings", fn := fun _ => fun
  | [d1, d2] => { results := [.lit (.bool true)], args := [d1, d2] }
  | _ => none }
def fnMeetingsRow : OpenClaim := { program := "ytfoedfigjcmjbaa", sum := "d7eb82dc8800a3479fd1801c92fd49b36452869cb69711a6b15fbd39602c9122", func := "loop.example/g01153/laws.FnMeetings", spec := "fnMeetings", unfollowed := true, recurses := true, apart := false }
def FnMeetingsSaid : Prop := fnMeetingsRow.holds Try.pinned (OpenSpec.ofChange fnMeetingsSpec)

/-- ITS FALSE NEIGHBOUR: 'it returns false'. Refute it at one input. -/
def fnMeetingsWrong : ChangeSpec := { name := "fnMeetings", fn := fun _ => fun
  | [d1, d2] => { results := [.lit (.bool false)], args := [d1, d2] }
  | _ => none }
def FnMeetingsWrongFalsely : Prop := fnMeetingsRow.holds Try.pinned (OpenSpec.ofChange fnMeetingsWrong)

/-- 'laws.FnExactFirstMeeting': WHATEVER THE INPUT: true; the input reads as it did. -/
def fnExactFirstMeetingSpec : ChangeSpec := { name := "fnExactFirstMeeting", fn := fun _ => fun
  | [d] => { results := [.lit (.bool true)], args := [d] }
  | _ => none }
def fnExactFirstMeetingRow : OpenClaim := { program := "ytfoedfigjcmjbaa", sum := "d7eb82dc8800a3479fd1801c92fd49b36452869cb69711a6b15fbd39602c9122", func := "loop.example/g01153/laws.FnExactFirstMeeting", spec := "fnExactFirstMeeting", unfollowed := true, recurses := true, apart := false }
def FnExactFirstMeetingSaid : Prop := fnExactFirstMeetingRow.holds Try.pinned (OpenSpec.ofChange fnExactFirstMeetingSpec)

/-- ITS FALSE NEIGHBOUR: 'it returns false'. Refute it at one input. -/
def fnExactFirstMeetingWrong : ChangeSpec := { name := "fnExactFirstMeeting", fn := fun _ => fun
  | [d] => { results := [.lit (.bool false)], args := [d] }
  | _ => none }
def FnExactFirstMeetingWrongFalsely : Prop := fnExactFirstMeetingRow.holds Try.pinned (OpenSpec.ofChange fnExactFirstMeetingWrong)

/- THE SECOND FORM. 'bulk': how many values and letters a reading holds, each counted each time it is reached (what is shared counts as often as it is met; a slice's spare places count too). A statement '..UptoSaid' is the law's where the arguments, and the package variables that the reading takes, are together of bulk at most 1048576: NARROWER than '..Said'. Prove '..Said' where nothing that the law and all that it calls make is longer than what came in: it says more and counts as full. Else prove '..UptoSaid'. A law counts once. -/
mutual
def uptoBulk {H : Type} : DataW H → Nat
  | .lit (.string bytes) => bytes.length + 1
  | .lit _ => 1
  | .nil => 1
  | .ptr d => uptoBulk d + 1
  | .slice elems spare => uptoBulkAll elems + uptoBulkAll spare + 1
  | .agg parts => uptoBulkAll parts + 1
  | .iface _ d => uptoBulk d + 1
  | .map entries => uptoBulkEntries entries + 1
  | .held _ => 1
def uptoBulkAll {H : Type} : List (DataW H) → Nat
  | [] => 0
  | d :: r => uptoBulk d + uptoBulkAll r
def uptoBulkEntries {H : Type} : List (Lit × DataW H) → Nat
  | [] => 0
  | x :: r => uptoBulkEntry x + uptoBulkEntries r
def uptoBulkEntry {H : Type} : Lit × DataW H → Nat
  | (.string bytes, d) => bytes.length + uptoBulk d + 1
  | (_, d) => uptoBulk d + 1
 end
def uptoSmall : (H : Type) → List (DataW H) → Bool := fun _ ds => decide (uptoBulkAll ds ≤ 1048576)
def OpenSpec.upto (s : _root_.Go.ChangeSpec) : _root_.Go.OpenSpec := { _root_.Go.OpenSpec.ofChange s with cond := some uptoSmall }

/-- 'laws.FnExactEvenPhases', WHERE WHAT IT READS IS OF BULK AT MOST 1048576: true; the input reads as it did. -/
def fnExactEvenPhasesUptoRow : OpenClaim := { program := "ytfoedfigjcmjbaa", sum := "d7eb82dc8800a3479fd1801c92fd49b36452869cb69711a6b15fbd39602c9122", func := "loop.example/g01153/laws.FnExactEvenPhases", spec := "fnExactEvenPhases", apart := false, narrowed := true }
def FnExactEvenPhasesUptoSaid : Prop := fnExactEvenPhasesUptoRow.holds Try.pinned (OpenSpec.upto fnExactEvenPhasesSpec)

/-- 'laws.FnBetween', WHERE WHAT IT READS IS OF BULK AT MOST 1048576: true; the input reads as it did. -/
def fnBetweenUptoRow : OpenClaim := { program := "ytfoedfigjcmjbaa", sum := "d7eb82dc8800a3479fd1801c92fd49b36452869cb69711a6b15fbd39602c9122", func := "loop.example/g01153/laws.FnBetween", spec := "fnBetween", apart := false, narrowed := true }
def FnBetweenUptoSaid : Prop := fnBetweenUptoRow.holds Try.pinned (OpenSpec.upto fnBetweenSpec)

/-- 'laws.FnClockEdges', WHERE WHAT IT READS IS OF BULK AT MOST 1048576: true; the input reads as it did. -/
def fnClockEdgesUptoRow : OpenClaim := { program := "ytfoedfigjcmjbaa", sum := "d7eb82dc8800a3479fd1801c92fd49b36452869cb69711a6b15fbd39602c9122", func := "loop.example/g01153/laws.FnClockEdges", spec := "fnClockEdges", unfollowed := true, recurses := true, apart := false, narrowed := true }
def FnClockEdgesUptoSaid : Prop := fnClockEdgesUptoRow.holds Try.pinned (OpenSpec.upto fnClockEdgesSpec)

/-- 'laws.FnExactCountsBetween', WHERE WHAT IT READS IS OF BULK AT MOST 1048576: true; the input reads as it did. -/
def fnExactCountsBetweenUptoRow : OpenClaim := { program := "ytfoedfigjcmjbaa", sum := "d7eb82dc8800a3479fd1801c92fd49b36452869cb69711a6b15fbd39602c9122", func := "loop.example/g01153/laws.FnExactCountsBetween", spec := "fnExactCountsBetween", apart := false, narrowed := true }
def FnExactCountsBetweenUptoSaid : Prop := fnExactCountsBetweenUptoRow.holds Try.pinned (OpenSpec.upto fnExactCountsBetweenSpec)

/-- 'laws.FnWaits', WHERE WHAT IT READS IS OF BULK AT MOST 1048576: true; the input reads as it did. -/
def fnWaitsUptoRow : OpenClaim := { program := "ytfoedfigjcmjbaa", sum := "d7eb82dc8800a3479fd1801c92fd49b36452869cb69711a6b15fbd39602c9122", func := "loop.example/g01153/laws.FnWaits", spec := "fnWaits", unfollowed := true, recurses := true, apart := false, narrowed := true }
def FnWaitsUptoSaid : Prop := fnWaitsUptoRow.holds Try.pinned (OpenSpec.upto fnWaitsSpec)

/-- 'laws.FnExactCommonPeriod', WHERE WHAT IT READS IS OF BULK AT MOST 1048576: true; the input reads as it did. -/
def fnExactCommonPeriodUptoRow : OpenClaim := { program := "ytfoedfigjcmjbaa", sum := "d7eb82dc8800a3479fd1801c92fd49b36452869cb69711a6b15fbd39602c9122", func := "loop.example/g01153/laws.FnExactCommonPeriod", spec := "fnExactCommonPeriod", unfollowed := true, recurses := true, apart := false, narrowed := true }
def FnExactCommonPeriodUptoSaid : Prop := fnExactCommonPeriodUptoRow.holds Try.pinned (OpenSpec.upto fnExactCommonPeriodSpec)

/-- 'laws.FnMeetings', WHERE WHAT IT READS IS OF BULK AT MOST 1048576: true; the input reads as it did. -/
def fnMeetingsUptoRow : OpenClaim := { program := "ytfoedfigjcmjbaa", sum := "d7eb82dc8800a3479fd1801c92fd49b36452869cb69711a6b15fbd39602c9122", func := "loop.example/g01153/laws.FnMeetings", spec := "fnMeetings", unfollowed := true, recurses := true, apart := false, narrowed := true }
def FnMeetingsUptoSaid : Prop := fnMeetingsUptoRow.holds Try.pinned (OpenSpec.upto fnMeetingsSpec)

/-- 'laws.FnExactFirstMeeting', WHERE WHAT IT READS IS OF BULK AT MOST 1048576: true; the input reads as it did. -/
def fnExactFirstMeetingUptoRow : OpenClaim := { program := "ytfoedfigjcmjbaa", sum := "d7eb82dc8800a3479fd1801c92fd49b36452869cb69711a6b15fbd39602c9122", func := "loop.example/g01153/laws.FnExactFirstMeeting", spec := "fnExactFirstMeeting", unfollowed := true, recurses := true, apart := false, narrowed := true }
def FnExactFirstMeetingUptoSaid : Prop := fnExactFirstMeetingUptoRow.holds Try.pinned (OpenSpec.upto fnExactFirstMeetingSpec)

end Rows
end Go.Proofs.Ytfoedfigjcmjbaa
