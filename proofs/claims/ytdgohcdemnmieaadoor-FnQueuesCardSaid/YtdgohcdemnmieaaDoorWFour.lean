/- Words for the walks, cut down by this session's shake.py out of a text that the kit's print.sh printed: what the claim does not stand on is left out. No conditions. -/
import Derived.Test.YtdgohcdemnmieaaDoorWTab
/-! ### 56. Four, five, six operations that may come up next, in any order -/
namespace Go.Proofs.YtdgohcdemnmieaaDoorW.PrintLast
section
variable {P : Program} {ops : Array Oper} {Q : Exit → Act → World → Prop} {md : Region.Mode} {S : World → Prop} {ds : List Nat} {T : Bool × List (List Nat × List Nat)}
end
end Go.Proofs.YtdgohcdemnmieaaDoorW.PrintLast
