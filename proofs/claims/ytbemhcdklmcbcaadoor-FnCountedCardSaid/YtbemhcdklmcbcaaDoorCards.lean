/-
  DERIVED. GIVEN WITH THE SEED: THE CARDS: each row of YtbemhcdklmcbcaaDoorRows.lean that lists a variable, with what it lists TIED to the program's text (the seventh form; the later family's looks); each row that meets fmt, with fmt's text TOLD by the authors' own Lean function (tested against real Go, not proved from fmt's source: count such statements apart). THE CARD IS WHAT COUNTS. Prove the row's statement (the work); the ties are given (YtbemhcdklmcbcaaDoorTie.lean); close each card by the builder's one call (the guide's Derived/Test/ToyasCard.lean, 'card_holds'). Laid BY PROGRAM, IN A SANDBOX (cutbox-door.mjs). By AI agents, Wed Nov 11 2026. No macro, syntax, notation, axiom, sorry.
-/
import Derived.Test.YtbemhcdklmcbcaaDoorRows
import GoSem.ClaimSeven
namespace Go.Proofs.YtbemhcdklmcbcaaDoor
namespace Rows

/-- THE TIED CARD OF 'laws.FnCounted'. -/
def fnCountedCard : Claim7 := { stood := { row := fnCountedRow, standIns := [], harness := (true, "a60fa5a9b6e4632d00856eaaf15143434b5a96fa2472a9a0e5e19eceacbd964d"), looks := false }, kinds := [], alts := [], laidByText := true, laidKinds := [.data, .pinned], laidTests := true, laidLooks := .later }
def FnCountedCardSaid : Prop := Claim7.holds Tryd.pinned (.plain (OpenSpec.ofChange fnCountedSpec)) fnCountedCard

/-- THE TIED CARD OF 'laws.FnEven'. -/
def fnEvenCard : Claim7 := { stood := { row := fnEvenRow, standIns := [], harness := (true, "a60fa5a9b6e4632d00856eaaf15143434b5a96fa2472a9a0e5e19eceacbd964d"), looks := false }, kinds := [], alts := [], laidByText := true, laidKinds := [.data, .pinned], laidTests := true, laidLooks := .later }
def FnEvenCardSaid : Prop := Claim7.holds Tryd.pinned (.plain (OpenSpec.ofChange fnEvenSpec)) fnEvenCard

/-- THE TIED CARD OF 'laws.FnQueues'. -/
def fnQueuesCard : Claim7 := { stood := { row := fnQueuesRow, standIns := [], harness := (true, "a60fa5a9b6e4632d00856eaaf15143434b5a96fa2472a9a0e5e19eceacbd964d"), looks := false }, kinds := [], alts := [], laidByText := true, laidKinds := [.data, .pinned], laidTests := true, laidLooks := .later }
def FnQueuesCardSaid : Prop := Claim7.holds Tryd.pinned (.plain (OpenSpec.ofChange fnQueuesSpec)) fnQueuesCard

/-- THE SECOND FORM's CARD OF 'laws.FnCounted'. -/
def fnCountedUptoCard : Claim7 := { stood := { row := fnCountedUptoRow, standIns := [], harness := (true, "a60fa5a9b6e4632d00856eaaf15143434b5a96fa2472a9a0e5e19eceacbd964d"), looks := false }, kinds := [], alts := [], laidByText := true, laidKinds := [.data, .pinned], laidTests := true, laidLooks := .later }
def FnCountedUptoCardSaid : Prop := Claim7.holds Tryd.pinned (.plain (OpenSpec.upto fnCountedSpec)) fnCountedUptoCard

/-- THE SECOND FORM's CARD OF 'laws.FnEven'. -/
def fnEvenUptoCard : Claim7 := { stood := { row := fnEvenUptoRow, standIns := [], harness := (true, "a60fa5a9b6e4632d00856eaaf15143434b5a96fa2472a9a0e5e19eceacbd964d"), looks := false }, kinds := [], alts := [], laidByText := true, laidKinds := [.data, .pinned], laidTests := true, laidLooks := .later }
def FnEvenUptoCardSaid : Prop := Claim7.holds Tryd.pinned (.plain (OpenSpec.upto fnEvenSpec)) fnEvenUptoCard

/-- THE SECOND FORM's CARD OF 'laws.FnQueues'. -/
def fnQueuesUptoCard : Claim7 := { stood := { row := fnQueuesUptoRow, standIns := [], harness := (true, "a60fa5a9b6e4632d00856eaaf15143434b5a96fa2472a9a0e5e19eceacbd964d"), looks := false }, kinds := [], alts := [], laidByText := true, laidKinds := [.data, .pinned], laidTests := true, laidLooks := .later }
def FnQueuesUptoCardSaid : Prop := Claim7.holds Tryd.pinned (.plain (OpenSpec.upto fnQueuesSpec)) fnQueuesUptoCard
end Rows
end Go.Proofs.YtbemhcdklmcbcaaDoor
