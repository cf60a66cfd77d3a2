/-
  DERIVED. GIVEN WITH THE SEED: THE CARDS: each row of YtmfnnggnnnagiaaDoorRows.lean that lists a variable, with what it lists TIED to the program's text (the seventh form; the later family's looks); each row that meets fmt, with fmt's text TOLD by the authors' own Lean function (tested against real Go, not proved from fmt's source: count such statements apart). THE CARD IS WHAT COUNTS. Prove the row's statement (the work); the ties are given (YtmfnnggnnnagiaaDoorTie.lean); close each card by the builder's one call (the guide's Derived/Test/ToyasCard.lean, 'card_holds'). Laid BY PROGRAM, IN A SANDBOX (cutbox-door.mjs). By AI agents, Wed Nov 11 2026. No macro, syntax, notation, axiom, sorry.
-/
import Derived.Test.YtmfnnggnnnagiaaDoorRows
import GoSem.ClaimSeven
namespace Go.Proofs.YtmfnnggnnnagiaaDoor
namespace Rows

/-- THE TIED CARD OF 'diacriticlaw04.RunLooks'. -/
def runLooksCard : Claim7 := { stood := { row := runLooksRow, standIns := [], harness := (true, "e42689f1372adf15d0563823642506a68581546e3b1229c044db3deae4f6ad5f"), looks := false }, kinds := [], alts := [], laidByText := true, laidKinds := [.data, .pinned], laidTests := true, laidLooks := .later }
def RunLooksCardSaid : Prop := Claim7.holds Tryd.pinned (.plain (OpenSpec.ofChange runLooksSpec)) runLooksCard

/-- THE TIED CARD OF 'diacriticlaw04.RunTables'. -/
def runTablesCard : Claim7 := { stood := { row := runTablesRow, standIns := [], harness := (true, "e42689f1372adf15d0563823642506a68581546e3b1229c044db3deae4f6ad5f"), looks := false }, kinds := [], alts := [], laidByText := true, laidKinds := [.data, .pinned], laidTests := true, laidLooks := .later }
def RunTablesCardSaid : Prop := Claim7.holds Tryd.pinned (.plain (OpenSpec.ofChange runTablesSpec)) runTablesCard

/-- THE TIED CARD OF 'diacriticlaw04.RunOvers'. -/
def runOversCard : Claim7 := { stood := { row := runOversRow, standIns := [], harness := (true, "e42689f1372adf15d0563823642506a68581546e3b1229c044db3deae4f6ad5f"), looks := false }, kinds := [], alts := [], laidByText := true, laidKinds := [.data, .pinned], laidTests := true, laidLooks := .later }
def RunOversCardSaid : Prop := Claim7.holds Tryd.pinned (.plain (OpenSpec.ofChange runOversSpec)) runOversCard

/-- THE TIED CARD OF 'diacriticlaw04.RunBack'. -/
def runBackCard : Claim7 := { stood := { row := runBackRow, standIns := [], harness := (true, "e42689f1372adf15d0563823642506a68581546e3b1229c044db3deae4f6ad5f"), looks := false }, kinds := [], alts := [], laidByText := true, laidKinds := [.data, .pinned], laidTests := true, laidLooks := .later }
def RunBackCardSaid : Prop := Claim7.holds Tryd.pinned (.plain (OpenSpec.ofChange runBackSpec)) runBackCard

/-- THE SECOND FORM's CARD OF 'diacriticlaw04.RunLooks'. -/
def runLooksUptoCard : Claim7 := { stood := { row := runLooksUptoRow, standIns := [], harness := (true, "e42689f1372adf15d0563823642506a68581546e3b1229c044db3deae4f6ad5f"), looks := false }, kinds := [], alts := [], laidByText := true, laidKinds := [.data, .pinned], laidTests := true, laidLooks := .later }
def RunLooksUptoCardSaid : Prop := Claim7.holds Tryd.pinned (.plain (OpenSpec.upto runLooksSpec)) runLooksUptoCard

/-- THE SECOND FORM's CARD OF 'diacriticlaw04.RunTables'. -/
def runTablesUptoCard : Claim7 := { stood := { row := runTablesUptoRow, standIns := [], harness := (true, "e42689f1372adf15d0563823642506a68581546e3b1229c044db3deae4f6ad5f"), looks := false }, kinds := [], alts := [], laidByText := true, laidKinds := [.data, .pinned], laidTests := true, laidLooks := .later }
def RunTablesUptoCardSaid : Prop := Claim7.holds Tryd.pinned (.plain (OpenSpec.upto runTablesSpec)) runTablesUptoCard

/-- THE SECOND FORM's CARD OF 'diacriticlaw04.RunOvers'. -/
def runOversUptoCard : Claim7 := { stood := { row := runOversUptoRow, standIns := [], harness := (true, "e42689f1372adf15d0563823642506a68581546e3b1229c044db3deae4f6ad5f"), looks := false }, kinds := [], alts := [], laidByText := true, laidKinds := [.data, .pinned], laidTests := true, laidLooks := .later }
def RunOversUptoCardSaid : Prop := Claim7.holds Tryd.pinned (.plain (OpenSpec.upto runOversSpec)) runOversUptoCard

/-- THE SECOND FORM's CARD OF 'diacriticlaw04.RunBack'. -/
def runBackUptoCard : Claim7 := { stood := { row := runBackUptoRow, standIns := [], harness := (true, "e42689f1372adf15d0563823642506a68581546e3b1229c044db3deae4f6ad5f"), looks := false }, kinds := [], alts := [], laidByText := true, laidKinds := [.data, .pinned], laidTests := true, laidLooks := .later }
def RunBackUptoCardSaid : Prop := Claim7.holds Tryd.pinned (.plain (OpenSpec.upto runBackSpec)) runBackUptoCard
end Rows
end Go.Proofs.YtmfnnggnnnagiaaDoor
