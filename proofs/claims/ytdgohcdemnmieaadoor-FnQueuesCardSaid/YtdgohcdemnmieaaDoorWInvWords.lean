/- Words for the walks, cut down by this session's shake.py out of a text that the kit's print.sh printed: what the claim does not stand on is left out. No conditions. -/
import Derived.Test.YtdgohcdemnmieaaDoorWInv
import Derived.Test.YtdgohcdemnmieaaDoorWFootNe
namespace Go.Proofs.YtdgohcdemnmieaaDoorW.PrintWords
open Go.RowKit
end Go.Proofs.YtdgohcdemnmieaaDoorW.PrintWords
namespace Go.Proofs.YtdgohcdemnmieaaDoorW.PrintLast
section
variable {ops : Array Oper} {a : Act} {o og : Oper} {g : Nat} {t : Tmp} {u : Bool}
end
end Go.Proofs.YtdgohcdemnmieaaDoorW.PrintLast
