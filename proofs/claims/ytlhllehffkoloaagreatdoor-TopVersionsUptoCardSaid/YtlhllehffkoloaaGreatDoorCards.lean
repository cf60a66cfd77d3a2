/-
  DERIVED. GIVEN WITH THE SEED: THE CARDS: each row of YtlhllehffkoloaaGreatDoorRows.lean that lists a variable, with what it lists TIED to the program's text (the seventh form; the later family's looks); each row that meets fmt, with fmt's text TOLD by the authors' own Lean function (tested against real Go, not proved from fmt's source: count such statements apart). THE CARD IS WHAT COUNTS. Prove the row's statement (the work); the ties are given (YtlhllehffkoloaaGreatDoorTie.lean); close each card by the builder's one call (the guide's Derived/Test/ToyasCard.lean, 'card_holds'). Laid BY PROGRAM, IN A SANDBOX (cutbox-door.mjs). By AI agents, Wed Nov 11 2026. No macro, syntax, notation, axiom, sorry.
-/
import Derived.Test.YtlhllehffkoloaaGreatDoorRows
import GoSem.ClaimSeven
namespace Go.Proofs.YtlhllehffkoloaaGreatDoor
namespace Rows

/-- THE TIED CARD OF 'diacritictop.TopVersions'. -/
def topVersionsCard : Claim7 := { stood := { row := topVersionsRow, standIns := [], harness := (true, "72b85875d21730671d3fbdd02a4a911e600e5dac2177bbb1a3428210a55f055f"), looks := false }, kinds := [], alts := [], laidByText := true, laidKinds := [.data, .data, .data, .pinned], laidTests := true, laidLooks := .later }
def TopVersionsCardSaid : Prop := Claim7.holds Tryz.pinned (.plain (OpenSpec.ofChange topVersionsSpec)) topVersionsCard

/-- THE SECOND FORM's CARD OF 'diacritictop.TopVersions'. -/
def topVersionsUptoCard : Claim7 := { stood := { row := topVersionsUptoRow, standIns := [], harness := (true, "72b85875d21730671d3fbdd02a4a911e600e5dac2177bbb1a3428210a55f055f"), looks := false }, kinds := [], alts := [], laidByText := true, laidKinds := [.data, .data, .data, .pinned], laidTests := true, laidLooks := .later }
def TopVersionsUptoCardSaid : Prop := Claim7.holds Tryz.pinned (.plain (OpenSpec.upto topVersionsSpec)) topVersionsUptoCard
end Rows
end Go.Proofs.YtlhllehffkoloaaGreatDoor
