/-
  DERIVED. GIVEN WITH THE SEED: THE CARDS: each row of YtnbkfkbcpfkddaaGreatDoorRows.lean that lists a variable, with what it lists TIED to the program's text (the seventh form; the later family's looks); each row that meets fmt, with fmt's text TOLD by the authors' own Lean function (tested against real Go, not proved from fmt's source: count such statements apart). THE CARD IS WHAT COUNTS. Prove the row's statement (the work); the ties are given (YtnbkfkbcpfkddaaGreatDoorTie.lean); close each card by the builder's one call (the guide's Derived/Test/ToyasCard.lean, 'card_holds'). Laid BY PROGRAM, IN A SANDBOX (cutbox-door.mjs). By AI agents, Wed Nov 11 2026. No macro, syntax, notation, axiom, sorry.
-/
import Derived.Test.YtnbkfkbcpfkddaaGreatDoorRows
import GoSem.ClaimSeven
namespace Go.Proofs.YtnbkfkbcpfkddaaGreatDoor
namespace Rows

/-- THE TIED CARD OF 'diacritictop.TopStreams'. -/
def topStreamsCard : Claim7 := { stood := { row := topStreamsRow, standIns := [], harness := (true, "93b03ef23fa37e40b4ca3cb6a902cc836b7be36653f4355267209228c2cd1660"), looks := false }, kinds := [], alts := [], laidByText := true, laidKinds := [.data, .data, .data, .pinned], laidTests := true, laidLooks := .later }
def TopStreamsCardSaid : Prop := Claim7.holds Tryz.pinned (.plain (OpenSpec.ofChange topStreamsSpec)) topStreamsCard

/-- THE SECOND FORM's CARD OF 'diacritictop.TopStreams'. -/
def topStreamsUptoCard : Claim7 := { stood := { row := topStreamsUptoRow, standIns := [], harness := (true, "93b03ef23fa37e40b4ca3cb6a902cc836b7be36653f4355267209228c2cd1660"), looks := false }, kinds := [], alts := [], laidByText := true, laidKinds := [.data, .data, .data, .pinned], laidTests := true, laidLooks := .later }
def TopStreamsUptoCardSaid : Prop := Claim7.holds Tryz.pinned (.plain (OpenSpec.upto topStreamsSpec)) topStreamsUptoCard
end Rows
end Go.Proofs.YtnbkfkbcpfkddaaGreatDoor
