/- Words for the walks, cut down by this session's shake.py out of a text that the kit's print.sh printed: what the claim does not stand on is left out. No conditions. -/
import Derived.Test.YtenlaanknlafdaaWInv
import Derived.Test.YtenlaanknlafdaaWFootNe
namespace Go.Proofs.YtenlaanknlafdaaW.PrintWords
open Go.RowKit
end Go.Proofs.YtenlaanknlafdaaW.PrintWords
namespace Go.Proofs.YtenlaanknlafdaaW.PrintLast
section
variable {ops : Array Oper} {a : Act} {o og : Oper} {g : Nat} {t : Tmp} {u : Bool}
end
end Go.Proofs.YtenlaanknlafdaaW.PrintLast
