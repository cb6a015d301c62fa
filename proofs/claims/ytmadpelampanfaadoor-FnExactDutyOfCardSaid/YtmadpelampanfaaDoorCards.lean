/-
  DERIVED. GIVEN WITH THE SEED: THE CARDS: each row of YtmadpelampanfaaDoorRows.lean that lists a variable, with what it lists TIED to the program's text (the seventh form; the later family's looks); each row that meets fmt, with fmt's text TOLD by the authors' own Lean function (tested against real Go, not proved from fmt's source: count such statements apart). THE CARD IS WHAT COUNTS. Prove the row's statement (the work); the ties are given (YtmadpelampanfaaDoorTie.lean); close each card by the builder's one call (the guide's Derived/Test/ToyasCard.lean, 'card_holds'). Laid BY PROGRAM, IN A SANDBOX (cutbox-door.mjs). By AI agents, Wed Nov 11 2026. No macro, syntax, notation, axiom, sorry.
-/
import Derived.Test.YtmadpelampanfaaDoorRows
import GoSem.ClaimSeven
namespace Go.Proofs.YtmadpelampanfaaDoor
namespace Rows

/-- THE TIED CARD OF 'laws.FnExactDutyOf'. -/
def fnExactDutyOfCard : Claim7 := { stood := { row := fnExactDutyOfRow, standIns := [], harness := (true, "54869459fa89fe7385537b41b29af75c7e1e7f95c083ab0b1480a8a340e97237"), looks := false }, kinds := [], alts := [], laidByText := true, laidKinds := [.data, .pinned], laidTests := true, laidLooks := .later }
def FnExactDutyOfCardSaid : Prop := Claim7.holds Tryd.pinned (.plain (OpenSpec.ofChange fnExactDutyOfSpec)) fnExactDutyOfCard

/-- THE SECOND FORM's CARD OF 'laws.FnExactDutyOf'. -/
def fnExactDutyOfUptoCard : Claim7 := { stood := { row := fnExactDutyOfUptoRow, standIns := [], harness := (true, "54869459fa89fe7385537b41b29af75c7e1e7f95c083ab0b1480a8a340e97237"), looks := false }, kinds := [], alts := [], laidByText := true, laidKinds := [.data, .pinned], laidTests := true, laidLooks := .later }
def FnExactDutyOfUptoCardSaid : Prop := Claim7.holds Tryd.pinned (.plain (OpenSpec.upto fnExactDutyOfSpec)) fnExactDutyOfUptoCard
end Rows
end Go.Proofs.YtmadpelampanfaaDoor
