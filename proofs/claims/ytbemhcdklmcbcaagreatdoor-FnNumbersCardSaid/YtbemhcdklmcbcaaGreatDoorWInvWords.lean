/- Words for the walks, cut down by this session's shake.py out of a text that the kit's print.sh printed: what the claim does not stand on is left out. No conditions. -/
import Derived.Test.YtbemhcdklmcbcaaGreatDoorWInv
import Derived.Test.YtbemhcdklmcbcaaGreatDoorWFootNe
namespace Go.Proofs.YtbemhcdklmcbcaaGreatDoorW.PrintWords
open Go.RowKit
end Go.Proofs.YtbemhcdklmcbcaaGreatDoorW.PrintWords
namespace Go.Proofs.YtbemhcdklmcbcaaGreatDoorW.PrintLast
section
variable {ops : Array Oper} {a : Act} {o og : Oper} {g : Nat} {t : Tmp} {u : Bool}
end
end Go.Proofs.YtbemhcdklmcbcaaGreatDoorW.PrintLast
