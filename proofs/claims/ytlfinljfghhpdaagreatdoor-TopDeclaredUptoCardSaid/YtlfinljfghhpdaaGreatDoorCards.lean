/-
  DERIVED. GIVEN WITH THE SEED: THE CARDS: each row of YtlfinljfghhpdaaGreatDoorRows.lean that lists a variable, with what it lists TIED to the program's text (the seventh form; the later family's looks); each row that meets fmt, with fmt's text TOLD by the authors' own Lean function (tested against real Go, not proved from fmt's source: count such statements apart). THE CARD IS WHAT COUNTS. Prove the row's statement (the work); the ties are given (YtlfinljfghhpdaaGreatDoorTie.lean); close each card by the builder's one call (the guide's Derived/Test/ToyasCard.lean, 'card_holds'). Laid BY PROGRAM, IN A SANDBOX (cutbox-door.mjs). By AI agents, Wed Nov 11 2026. No macro, syntax, notation, axiom, sorry.
-/
import Derived.Test.YtlfinljfghhpdaaGreatDoorRows
import GoSem.ClaimSeven
namespace Go.Proofs.YtlfinljfghhpdaaGreatDoor
namespace Rows

/-- THE TIED CARD OF 'diacritictop.TopDeclared'. -/
def topDeclaredCard : Claim7 := { stood := { row := topDeclaredRow, standIns := [], harness := (true, "a96cbe06d7e56ee14482e7410ef33824cb23c0b627f5dd2dfe1aee69281a1342"), looks := false }, kinds := [], alts := [], laidByText := true, laidKinds := [.data, .data, .data, .pinned], laidTests := true, laidLooks := .later }
def TopDeclaredCardSaid : Prop := Claim7.holds Tryz.pinned (.plain (OpenSpec.ofChange topDeclaredSpec)) topDeclaredCard

/-- THE SECOND FORM's CARD OF 'diacritictop.TopDeclared'. -/
def topDeclaredUptoCard : Claim7 := { stood := { row := topDeclaredUptoRow, standIns := [], harness := (true, "a96cbe06d7e56ee14482e7410ef33824cb23c0b627f5dd2dfe1aee69281a1342"), looks := false }, kinds := [], alts := [], laidByText := true, laidKinds := [.data, .data, .data, .pinned], laidTests := true, laidLooks := .later }
def TopDeclaredUptoCardSaid : Prop := Claim7.holds Tryz.pinned (.plain (OpenSpec.upto topDeclaredSpec)) topDeclaredUptoCard
end Rows
end Go.Proofs.YtlfinljfghhpdaaGreatDoor
