/-
  DERIVED. GIVEN WITH THE SEED: THE CARDS: each row of YtmfnnggnnnagiabDoorRows.lean that lists a variable, with what it lists TIED to the program's text (the seventh form; the later family's looks); each row that meets fmt, with fmt's text TOLD by the authors' own Lean function (tested against real Go, not proved from fmt's source: count such statements apart). THE CARD IS WHAT COUNTS. Prove the row's statement (the work); the ties are given (YtmfnnggnnnagiabDoorTie.lean); close each card by the builder's one call (the guide's Derived/Test/ToyasCard.lean, 'card_holds'). Laid BY PROGRAM, IN A SANDBOX (cutbox-door.mjs). By AI agents, Wed Nov 11 2026. No macro, syntax, notation, axiom, sorry.
-/
import Derived.Test.YtmfnnggnnnagiabDoorRows
import GoSem.ClaimSeven
namespace Go.Proofs.YtmfnnggnnnagiabDoor
namespace Rows

/-- THE TIED CARD OF 'diacriticlaw25.SsaReads'. -/
def ssaReadsCard : Claim7 := { stood := { row := ssaReadsRow, standIns := [], harness := (true, "94f3c0c120c758732935db22c3536a68e8369c256ca64fb47ffbd68a0cbbc694"), looks := false }, kinds := [], alts := [], laidByText := true, laidKinds := [.data, .pinned], laidTests := true, laidLooks := .later }
def SsaReadsCardSaid : Prop := Claim7.holds Tryd.pinned (.plain (OpenSpec.ofChange ssaReadsSpec)) ssaReadsCard

/-- THE TIED CARD OF 'diacriticlaw25.SsaDeclares'. -/
def ssaDeclaresCard : Claim7 := { stood := { row := ssaDeclaresRow, standIns := [], harness := (true, "94f3c0c120c758732935db22c3536a68e8369c256ca64fb47ffbd68a0cbbc694"), looks := false }, kinds := [], alts := [], laidByText := true, laidKinds := [.data, .pinned], laidTests := true, laidLooks := .later }
def SsaDeclaresCardSaid : Prop := Claim7.holds Tryd.pinned (.plain (OpenSpec.ofChange ssaDeclaresSpec)) ssaDeclaresCard

/-- THE TIED CARD OF 'diacriticlaw25.SsaChanges'. -/
def ssaChangesCard : Claim7 := { stood := { row := ssaChangesRow, standIns := [], harness := (true, "94f3c0c120c758732935db22c3536a68e8369c256ca64fb47ffbd68a0cbbc694"), looks := false }, kinds := [], alts := [], laidByText := true, laidKinds := [.data, .pinned], laidTests := true, laidLooks := .later }
def SsaChangesCardSaid : Prop := Claim7.holds Tryd.pinned (.plain (OpenSpec.ofChange ssaChangesSpec)) ssaChangesCard

/-- THE TIED CARD OF 'diacriticlaw25.SsaEvents'. -/
def ssaEventsCard : Claim7 := { stood := { row := ssaEventsRow, standIns := [], harness := (true, "94f3c0c120c758732935db22c3536a68e8369c256ca64fb47ffbd68a0cbbc694"), looks := false }, kinds := [], alts := [], laidByText := true, laidKinds := [.data, .pinned], laidTests := true, laidLooks := .later }
def SsaEventsCardSaid : Prop := Claim7.holds Tryd.pinned (.plain (OpenSpec.ofChange ssaEventsSpec)) ssaEventsCard

/-- THE SECOND FORM's CARD OF 'diacriticlaw25.SsaReads'. -/
def ssaReadsUptoCard : Claim7 := { stood := { row := ssaReadsUptoRow, standIns := [], harness := (true, "94f3c0c120c758732935db22c3536a68e8369c256ca64fb47ffbd68a0cbbc694"), looks := false }, kinds := [], alts := [], laidByText := true, laidKinds := [.data, .pinned], laidTests := true, laidLooks := .later }
def SsaReadsUptoCardSaid : Prop := Claim7.holds Tryd.pinned (.plain (OpenSpec.upto ssaReadsSpec)) ssaReadsUptoCard

/-- THE SECOND FORM's CARD OF 'diacriticlaw25.SsaDeclares'. -/
def ssaDeclaresUptoCard : Claim7 := { stood := { row := ssaDeclaresUptoRow, standIns := [], harness := (true, "94f3c0c120c758732935db22c3536a68e8369c256ca64fb47ffbd68a0cbbc694"), looks := false }, kinds := [], alts := [], laidByText := true, laidKinds := [.data, .pinned], laidTests := true, laidLooks := .later }
def SsaDeclaresUptoCardSaid : Prop := Claim7.holds Tryd.pinned (.plain (OpenSpec.upto ssaDeclaresSpec)) ssaDeclaresUptoCard

/-- THE SECOND FORM's CARD OF 'diacriticlaw25.SsaChanges'. -/
def ssaChangesUptoCard : Claim7 := { stood := { row := ssaChangesUptoRow, standIns := [], harness := (true, "94f3c0c120c758732935db22c3536a68e8369c256ca64fb47ffbd68a0cbbc694"), looks := false }, kinds := [], alts := [], laidByText := true, laidKinds := [.data, .pinned], laidTests := true, laidLooks := .later }
def SsaChangesUptoCardSaid : Prop := Claim7.holds Tryd.pinned (.plain (OpenSpec.upto ssaChangesSpec)) ssaChangesUptoCard

/-- THE SECOND FORM's CARD OF 'diacriticlaw25.SsaEvents'. -/
def ssaEventsUptoCard : Claim7 := { stood := { row := ssaEventsUptoRow, standIns := [], harness := (true, "94f3c0c120c758732935db22c3536a68e8369c256ca64fb47ffbd68a0cbbc694"), looks := false }, kinds := [], alts := [], laidByText := true, laidKinds := [.data, .pinned], laidTests := true, laidLooks := .later }
def SsaEventsUptoCardSaid : Prop := Claim7.holds Tryd.pinned (.plain (OpenSpec.upto ssaEventsSpec)) ssaEventsUptoCard
end Rows
end Go.Proofs.YtmfnnggnnnagiabDoor
