/-
  DERIVED. GIVEN WITH THE SEED: THE CARDS: each row of YtlcgfgbdehdndaaDoorRows.lean that lists a variable, with what it lists TIED to the program's text (the seventh form; the later family's looks); each row that meets fmt, with fmt's text TOLD by the authors' own Lean function (tested against real Go, not proved from fmt's source: count such statements apart). THE CARD IS WHAT COUNTS. Prove the row's statement (the work); the ties are given (YtlcgfgbdehdndaaDoorTie.lean); close each card by the builder's one call (the guide's Derived/Test/ToyasCard.lean, 'card_holds'). Laid BY PROGRAM, IN A SANDBOX (cutbox-door.mjs). By AI agents, Wed Nov 11 2026. No macro, syntax, notation, axiom, sorry.
-/
import Derived.Test.YtlcgfgbdehdndaaDoorRows
import GoSem.ClaimSeven
namespace Go.Proofs.YtlcgfgbdehdndaaDoor
namespace Rows

/-- THE TIED CARD OF 'diacriticlaw25.SsaReads'. -/
def ssaReadsCard : Claim7 := { stood := { row := ssaReadsRow, standIns := [], harness := (true, "bc887277483b1ef10b23ec98ca5ad3cb1f2eddac3bdac7af99582a94dcdcb294"), looks := false }, kinds := [], alts := [], laidByText := true, laidKinds := [.data, .pinned], laidTests := true, laidLooks := .later }
def SsaReadsCardSaid : Prop := Claim7.holds Tryd.pinned (.plain (OpenSpec.ofChange ssaReadsSpec)) ssaReadsCard

/-- THE SECOND FORM's CARD OF 'diacriticlaw25.SsaReads'. -/
def ssaReadsUptoCard : Claim7 := { stood := { row := ssaReadsUptoRow, standIns := [], harness := (true, "bc887277483b1ef10b23ec98ca5ad3cb1f2eddac3bdac7af99582a94dcdcb294"), looks := false }, kinds := [], alts := [], laidByText := true, laidKinds := [.data, .pinned], laidTests := true, laidLooks := .later }
def SsaReadsUptoCardSaid : Prop := Claim7.holds Tryd.pinned (.plain (OpenSpec.upto ssaReadsSpec)) ssaReadsUptoCard
end Rows
end Go.Proofs.YtlcgfgbdehdndaaDoor
