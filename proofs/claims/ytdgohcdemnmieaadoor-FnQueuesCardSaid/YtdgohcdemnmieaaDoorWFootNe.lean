/- Words for the walks, cut down by this session's shake.py out of a text that the kit's print.sh printed: what the claim does not stand on is left out. No conditions. -/
import Derived.Test.YtdgohcdemnmieaaDoorWN
/-! ### 52. A row that stays read whatever happens to a block (a set of blocks) doesn't lie there -/
namespace Go.Proofs.YtdgohcdemnmieaaDoorW.PrintWords
open Go.RowKit
namespace Kd
section
variable {α : Type} {d : Kd α} {W : World} {g n : Nat} {S ok : Nat → Prop} {A : Option Addr} {ad : Addr} {xs : List α}
end
end Kd
end Go.Proofs.YtdgohcdemnmieaaDoorW.PrintWords
