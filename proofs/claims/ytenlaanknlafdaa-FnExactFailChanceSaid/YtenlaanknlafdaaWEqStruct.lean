/- Words for the walks, cut down by this session's shake.py out of a text that the kit's print.sh printed: what the claim does not stand on is left out. No conditions. -/
import Derived.Test.YtenlaanknlafdaaWWords
import Derived.Laws.StructEq
/-! ### 53. '==' of structs as_ one Bool -/
namespace Go.Proofs.YtenlaanknlafdaaW.PrintWords
open Go.RowKit
section
variable {P : Program} {d : Nat} {xs ys : Array Value} {f : Field} {fs : List Field} {a b : Value} {r s : Bool} {w : World}
end
end Go.Proofs.YtenlaanknlafdaaW.PrintWords
