/-
  DERIVED. GIVEN WITH THE SEED: THE CARDS: each row of YtpnjandlpbjddaaDoorRows.lean that lists a variable, with what it lists TIED to the program's text (the seventh form; the later family's looks); each row that meets fmt, with fmt's text TOLD by the authors' own Lean function (tested against real Go, not proved from fmt's source: count such statements apart). THE CARD IS WHAT COUNTS. Prove the row's statement (the work); the ties are given (YtpnjandlpbjddaaDoorTie.lean); close each card by the builder's one call (the guide's Derived/Test/ToyasCard.lean, 'card_holds'). Laid BY PROGRAM, IN A SANDBOX (cutbox-door.mjs). By AI agents, Wed Nov 11 2026. No macro, syntax, notation, axiom, sorry.
-/
import Derived.Test.YtpnjandlpbjddaaDoorRows
import GoSem.ClaimSeven
namespace Go.Proofs.YtpnjandlpbjddaaDoor
namespace Rows

/-- THE TIED CARD OF 'diacriticlaw05.SingleSets'. -/
def singleSetsCard : Claim7 := { stood := { row := singleSetsRow, standIns := [], harness := (true, "6d5e0375081ef5c383d6f22460d12d272cee1fd46296a68a9e7b4f9a47a4f542"), looks := false }, kinds := [], alts := [], laidByText := true, laidKinds := [.data, .pinned], laidTests := true, laidLooks := .later }
def SingleSetsCardSaid : Prop := Claim7.holds Tryd.pinned (.plain (OpenSpec.ofChange singleSetsSpec)) singleSetsCard

/-- THE TIED CARD OF 'diacriticlaw05.SingleReads'. -/
def singleReadsCard : Claim7 := { stood := { row := singleReadsRow, standIns := [], harness := (true, "6d5e0375081ef5c383d6f22460d12d272cee1fd46296a68a9e7b4f9a47a4f542"), looks := false }, kinds := [], alts := [], laidByText := true, laidKinds := [.data, .pinned], laidTests := true, laidLooks := .later }
def SingleReadsCardSaid : Prop := Claim7.holds Tryd.pinned (.plain (OpenSpec.ofChange singleReadsSpec)) singleReadsCard

/-- THE TIED CARD OF 'diacriticlaw05.SingleWrites'. -/
def singleWritesCard : Claim7 := { stood := { row := singleWritesRow, standIns := [], harness := (true, "6d5e0375081ef5c383d6f22460d12d272cee1fd46296a68a9e7b4f9a47a4f542"), looks := false }, kinds := [], alts := [], laidByText := true, laidKinds := [.data, .pinned], laidTests := true, laidLooks := .later }
def SingleWritesCardSaid : Prop := Claim7.holds Tryd.pinned (.plain (OpenSpec.ofChange singleWritesSpec)) singleWritesCard

/-- THE SECOND FORM's CARD OF 'diacriticlaw05.SingleSets'. -/
def singleSetsUptoCard : Claim7 := { stood := { row := singleSetsUptoRow, standIns := [], harness := (true, "6d5e0375081ef5c383d6f22460d12d272cee1fd46296a68a9e7b4f9a47a4f542"), looks := false }, kinds := [], alts := [], laidByText := true, laidKinds := [.data, .pinned], laidTests := true, laidLooks := .later }
def SingleSetsUptoCardSaid : Prop := Claim7.holds Tryd.pinned (.plain (OpenSpec.upto singleSetsSpec)) singleSetsUptoCard

/-- THE SECOND FORM's CARD OF 'diacriticlaw05.SingleReads'. -/
def singleReadsUptoCard : Claim7 := { stood := { row := singleReadsUptoRow, standIns := [], harness := (true, "6d5e0375081ef5c383d6f22460d12d272cee1fd46296a68a9e7b4f9a47a4f542"), looks := false }, kinds := [], alts := [], laidByText := true, laidKinds := [.data, .pinned], laidTests := true, laidLooks := .later }
def SingleReadsUptoCardSaid : Prop := Claim7.holds Tryd.pinned (.plain (OpenSpec.upto singleReadsSpec)) singleReadsUptoCard

/-- THE SECOND FORM's CARD OF 'diacriticlaw05.SingleWrites'. -/
def singleWritesUptoCard : Claim7 := { stood := { row := singleWritesUptoRow, standIns := [], harness := (true, "6d5e0375081ef5c383d6f22460d12d272cee1fd46296a68a9e7b4f9a47a4f542"), looks := false }, kinds := [], alts := [], laidByText := true, laidKinds := [.data, .pinned], laidTests := true, laidLooks := .later }
def SingleWritesUptoCardSaid : Prop := Claim7.holds Tryd.pinned (.plain (OpenSpec.upto singleWritesSpec)) singleWritesUptoCard
end Rows
end Go.Proofs.YtpnjandlpbjddaaDoor
