/-
  DERIVED. GIVEN WITH THE SEED: THE CARDS: each row of YtjpjlobpglmoiaaDoorRows.lean that lists a variable, with what it lists TIED to the program's text (the seventh form; the later family's looks); each row that meets fmt, with fmt's text TOLD by the authors' own Lean function (tested against real Go, not proved from fmt's source: count such statements apart). THE CARD IS WHAT COUNTS. Prove the row's statement (the work); the ties are given (YtjpjlobpglmoiaaDoorTie.lean); close each card by the builder's one call (the guide's Derived/Test/ToyasCard.lean, 'card_holds'). Laid BY PROGRAM, IN A SANDBOX (cutbox-door.mjs). By AI agents, Wed Nov 11 2026. No macro, syntax, notation, axiom, sorry.
-/
import Derived.Test.YtjpjlobpglmoiaaDoorRows
import GoSem.ClaimSeven
namespace Go.Proofs.YtjpjlobpglmoiaaDoor
namespace Rows

/-- THE TIED CARD OF 'laws.FnExactValidScope'. -/
def fnExactValidScopeCard : Claim7 := { stood := { row := fnExactValidScopeRow, standIns := [], harness := (true, "e4aa227301de2017837f1e198e306dee7bee212b7349875067b22dcabe63bf5c"), looks := false }, kinds := [], alts := [], laidByText := true, laidKinds := [.data, .pinned], laidTests := true, laidLooks := .later }
def FnExactValidScopeCardSaid : Prop := Claim7.holds Tryd.pinned (.plain (OpenSpec.ofChange fnExactValidScopeSpec)) fnExactValidScopeCard

/-- THE TIED CARD OF 'laws.FnExactJournalOf'. -/
def fnExactJournalOfCard : Claim7 := { stood := { row := fnExactJournalOfRow, standIns := [], harness := (true, "e4aa227301de2017837f1e198e306dee7bee212b7349875067b22dcabe63bf5c"), looks := false }, kinds := [], alts := [], laidByText := true, laidKinds := [.data, .data, .data], laidTests := true, laidLooks := .later }
def FnExactJournalOfCardSaid : Prop := Claim7.holds Tryd.pinned (.plain (OpenSpec.ofChange fnExactJournalOfSpec)) fnExactJournalOfCard

/-- THE TIED CARD OF 'laws.FnExactRecoverJournal'. -/
def fnExactRecoverJournalCard : Claim7 := { stood := { row := fnExactRecoverJournalRow, standIns := [], harness := (true, "e4aa227301de2017837f1e198e306dee7bee212b7349875067b22dcabe63bf5c"), looks := false }, kinds := [], alts := [], laidByText := true, laidKinds := [.data, .data, .data], laidTests := true, laidLooks := .later }
def FnExactRecoverJournalCardSaid : Prop := Claim7.holds Tryd.pinned (.plain (OpenSpec.ofChange fnExactRecoverJournalSpec)) fnExactRecoverJournalCard

/-- THE TIED CARD OF 'laws.FnJournal'. -/
def fnJournalCard : Claim7 := { stood := { row := fnJournalRow, standIns := [], harness := (true, "e4aa227301de2017837f1e198e306dee7bee212b7349875067b22dcabe63bf5c"), looks := false }, kinds := [], alts := [], laidByText := true, laidKinds := [.data, .data, .data], laidTests := true, laidLooks := .later }
def FnJournalCardSaid : Prop := Claim7.holds Tryd.pinned (.plain (OpenSpec.ofChange fnJournalSpec)) fnJournalCard

/-- THE TIED CARD OF 'laws.FnExactPictureOf'. -/
def fnExactPictureOfCard : Claim7 := { stood := { row := fnExactPictureOfRow, standIns := [], harness := (true, "e4aa227301de2017837f1e198e306dee7bee212b7349875067b22dcabe63bf5c"), looks := false }, kinds := [], alts := [], laidByText := true, laidKinds := [.data, .pinned], laidTests := true, laidLooks := .later }
def FnExactPictureOfCardSaid : Prop := Claim7.holds Tryd.pinned (.plain (OpenSpec.ofChange fnExactPictureOfSpec)) fnExactPictureOfCard

/-- THE TIED CARD OF 'laws.FnPictures'. -/
def fnPicturesCard : Claim7 := { stood := { row := fnPicturesRow, standIns := [], harness := (true, "e4aa227301de2017837f1e198e306dee7bee212b7349875067b22dcabe63bf5c"), looks := false }, kinds := [], alts := [], laidByText := true, laidKinds := [.data, .pinned], laidTests := true, laidLooks := .later }
def FnPicturesCardSaid : Prop := Claim7.holds Tryd.pinned (.plain (OpenSpec.ofChange fnPicturesSpec)) fnPicturesCard

/-- THE SECOND FORM's CARD OF 'laws.FnExactValidScope'. -/
def fnExactValidScopeUptoCard : Claim7 := { stood := { row := fnExactValidScopeUptoRow, standIns := [], harness := (true, "e4aa227301de2017837f1e198e306dee7bee212b7349875067b22dcabe63bf5c"), looks := false }, kinds := [], alts := [], laidByText := true, laidKinds := [.data, .pinned], laidTests := true, laidLooks := .later }
def FnExactValidScopeUptoCardSaid : Prop := Claim7.holds Tryd.pinned (.plain (OpenSpec.upto fnExactValidScopeSpec)) fnExactValidScopeUptoCard

/-- THE SECOND FORM's CARD OF 'laws.FnExactJournalOf'. -/
def fnExactJournalOfUptoCard : Claim7 := { stood := { row := fnExactJournalOfUptoRow, standIns := [], harness := (true, "e4aa227301de2017837f1e198e306dee7bee212b7349875067b22dcabe63bf5c"), looks := false }, kinds := [], alts := [], laidByText := true, laidKinds := [.data, .data, .data], laidTests := true, laidLooks := .later }
def FnExactJournalOfUptoCardSaid : Prop := Claim7.holds Tryd.pinned (.plain (OpenSpec.upto fnExactJournalOfSpec)) fnExactJournalOfUptoCard

/-- THE SECOND FORM's CARD OF 'laws.FnExactRecoverJournal'. -/
def fnExactRecoverJournalUptoCard : Claim7 := { stood := { row := fnExactRecoverJournalUptoRow, standIns := [], harness := (true, "e4aa227301de2017837f1e198e306dee7bee212b7349875067b22dcabe63bf5c"), looks := false }, kinds := [], alts := [], laidByText := true, laidKinds := [.data, .data, .data], laidTests := true, laidLooks := .later }
def FnExactRecoverJournalUptoCardSaid : Prop := Claim7.holds Tryd.pinned (.plain (OpenSpec.upto fnExactRecoverJournalSpec)) fnExactRecoverJournalUptoCard

/-- THE SECOND FORM's CARD OF 'laws.FnJournal'. -/
def fnJournalUptoCard : Claim7 := { stood := { row := fnJournalUptoRow, standIns := [], harness := (true, "e4aa227301de2017837f1e198e306dee7bee212b7349875067b22dcabe63bf5c"), looks := false }, kinds := [], alts := [], laidByText := true, laidKinds := [.data, .data, .data], laidTests := true, laidLooks := .later }
def FnJournalUptoCardSaid : Prop := Claim7.holds Tryd.pinned (.plain (OpenSpec.upto fnJournalSpec)) fnJournalUptoCard

/-- THE SECOND FORM's CARD OF 'laws.FnExactPictureOf'. -/
def fnExactPictureOfUptoCard : Claim7 := { stood := { row := fnExactPictureOfUptoRow, standIns := [], harness := (true, "e4aa227301de2017837f1e198e306dee7bee212b7349875067b22dcabe63bf5c"), looks := false }, kinds := [], alts := [], laidByText := true, laidKinds := [.data, .pinned], laidTests := true, laidLooks := .later }
def FnExactPictureOfUptoCardSaid : Prop := Claim7.holds Tryd.pinned (.plain (OpenSpec.upto fnExactPictureOfSpec)) fnExactPictureOfUptoCard

/-- THE SECOND FORM's CARD OF 'laws.FnPictures'. -/
def fnPicturesUptoCard : Claim7 := { stood := { row := fnPicturesUptoRow, standIns := [], harness := (true, "e4aa227301de2017837f1e198e306dee7bee212b7349875067b22dcabe63bf5c"), looks := false }, kinds := [], alts := [], laidByText := true, laidKinds := [.data, .pinned], laidTests := true, laidLooks := .later }
def FnPicturesUptoCardSaid : Prop := Claim7.holds Tryd.pinned (.plain (OpenSpec.upto fnPicturesSpec)) fnPicturesUptoCard
end Rows
end Go.Proofs.YtjpjlobpglmoiaaDoor
