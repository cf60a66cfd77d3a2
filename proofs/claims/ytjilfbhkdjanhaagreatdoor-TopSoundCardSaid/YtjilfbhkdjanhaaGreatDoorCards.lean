/-
  DERIVED. GIVEN WITH THE SEED: THE CARDS: each row of YtjilfbhkdjanhaaGreatDoorRows.lean that lists a variable, with what it lists TIED to the program's text (the seventh form; the later family's looks); each row that meets fmt, with fmt's text TOLD by the authors' own Lean function (tested against real Go, not proved from fmt's source: count such statements apart). THE CARD IS WHAT COUNTS. Prove the row's statement (the work); the ties are given (YtjilfbhkdjanhaaGreatDoorTie.lean); close each card by the builder's one call (the guide's Derived/Test/ToyasCard.lean, 'card_holds'). Laid BY PROGRAM, IN A SANDBOX (cutbox-door.mjs). By AI agents, Wed Nov 11 2026. No macro, syntax, notation, axiom, sorry.
-/
import Derived.Test.YtjilfbhkdjanhaaGreatDoorRows
import GoSem.ClaimSeven
namespace Go.Proofs.YtjilfbhkdjanhaaGreatDoor
namespace Rows

/-- THE TIED CARD OF 'diacritictop.TopSound'. -/
def topSoundCard : Claim7 := { stood := { row := topSoundRow, standIns := [], harness := (true, "7ebf6c8a3745470e3915186bcbe9fff73d7a7424af6c468279ebd4a9250de16f"), looks := false }, kinds := [], alts := [], laidByText := true, laidKinds := [.data, .data, .data, .pinned], laidTests := true, laidLooks := .later }
def TopSoundCardSaid : Prop := Claim7.holds Tryz.pinned (.plain (OpenSpec.ofChange topSoundSpec)) topSoundCard

/-- THE SECOND FORM's CARD OF 'diacritictop.TopSound'. -/
def topSoundUptoCard : Claim7 := { stood := { row := topSoundUptoRow, standIns := [], harness := (true, "7ebf6c8a3745470e3915186bcbe9fff73d7a7424af6c468279ebd4a9250de16f"), looks := false }, kinds := [], alts := [], laidByText := true, laidKinds := [.data, .data, .data, .pinned], laidTests := true, laidLooks := .later }
def TopSoundUptoCardSaid : Prop := Claim7.holds Tryz.pinned (.plain (OpenSpec.upto topSoundSpec)) topSoundUptoCard
end Rows
end Go.Proofs.YtjilfbhkdjanhaaGreatDoor
