/-
  DERIVED. GIVEN WITH THE SEED: THE CARDS: each row of YtpnjandlpbjddabDoorRows.lean that lists a variable, with what it lists TIED to the program's text (the seventh form; the later family's looks); each row that meets fmt, with fmt's text TOLD by the authors' own Lean function (tested against real Go, not proved from fmt's source: count such statements apart). THE CARD IS WHAT COUNTS. Prove the row's statement (the work); the ties are given (YtpnjandlpbjddabDoorTie.lean); close each card by the builder's one call (the guide's Derived/Test/ToyasCard.lean, 'card_holds'). Laid BY PROGRAM, IN A SANDBOX (cutbox-door.mjs). By AI agents, Wed Nov 11 2026. No macro, syntax, notation, axiom, sorry.
-/
import Derived.Test.YtpnjandlpbjddabDoorRows
import GoSem.ClaimSeven
namespace Go.Proofs.YtpnjandlpbjddabDoor
namespace Rows

/-- THE TIED CARD OF 'diacriticlaw05.SingleParts'. -/
def singlePartsCard : Claim7 := { stood := { row := singlePartsRow, standIns := [], harness := (true, "0c1b599db49adf2207cec3e55df5dcf56b152a5a851405b4b7a4d84cb711e14e"), looks := false }, kinds := [], alts := [], laidByText := true, laidKinds := [.data, .pinned], laidTests := true, laidLooks := .later }
def SinglePartsCardSaid : Prop := Claim7.holds Tryd.pinned (.plain (OpenSpec.ofChange singlePartsSpec)) singlePartsCard

/-- THE TIED CARD OF 'diacriticlaw05.SingleNone'. -/
def singleNoneCard : Claim7 := { stood := { row := singleNoneRow, standIns := [], harness := (true, "0c1b599db49adf2207cec3e55df5dcf56b152a5a851405b4b7a4d84cb711e14e"), looks := false }, kinds := [], alts := [], laidByText := true, laidKinds := [.data, .pinned], laidTests := true, laidLooks := .later }
def SingleNoneCardSaid : Prop := Claim7.holds Tryd.pinned (.plain (OpenSpec.ofChange singleNoneSpec)) singleNoneCard

/-- THE TIED CARD OF 'diacriticlaw07.WansungRows'. -/
def wansungRowsCard : Claim7 := { stood := { row := wansungRowsRow, standIns := [], harness := (true, "0c1b599db49adf2207cec3e55df5dcf56b152a5a851405b4b7a4d84cb711e14e"), looks := false }, kinds := [], alts := [], laidByText := true, laidKinds := [.data, .data, .pinned], laidTests := true, laidLooks := .later }
def WansungRowsCardSaid : Prop := Claim7.holds Tryd.pinned (.plain (OpenSpec.ofChange wansungRowsSpec)) wansungRowsCard

/-- THE SECOND FORM's CARD OF 'diacriticlaw05.SingleParts'. -/
def singlePartsUptoCard : Claim7 := { stood := { row := singlePartsUptoRow, standIns := [], harness := (true, "0c1b599db49adf2207cec3e55df5dcf56b152a5a851405b4b7a4d84cb711e14e"), looks := false }, kinds := [], alts := [], laidByText := true, laidKinds := [.data, .pinned], laidTests := true, laidLooks := .later }
def SinglePartsUptoCardSaid : Prop := Claim7.holds Tryd.pinned (.plain (OpenSpec.upto singlePartsSpec)) singlePartsUptoCard

/-- THE SECOND FORM's CARD OF 'diacriticlaw05.SingleNone'. -/
def singleNoneUptoCard : Claim7 := { stood := { row := singleNoneUptoRow, standIns := [], harness := (true, "0c1b599db49adf2207cec3e55df5dcf56b152a5a851405b4b7a4d84cb711e14e"), looks := false }, kinds := [], alts := [], laidByText := true, laidKinds := [.data, .pinned], laidTests := true, laidLooks := .later }
def SingleNoneUptoCardSaid : Prop := Claim7.holds Tryd.pinned (.plain (OpenSpec.upto singleNoneSpec)) singleNoneUptoCard

/-- THE SECOND FORM's CARD OF 'diacriticlaw07.WansungRows'. -/
def wansungRowsUptoCard : Claim7 := { stood := { row := wansungRowsUptoRow, standIns := [], harness := (true, "0c1b599db49adf2207cec3e55df5dcf56b152a5a851405b4b7a4d84cb711e14e"), looks := false }, kinds := [], alts := [], laidByText := true, laidKinds := [.data, .data, .pinned], laidTests := true, laidLooks := .later }
def WansungRowsUptoCardSaid : Prop := Claim7.holds Tryd.pinned (.plain (OpenSpec.upto wansungRowsSpec)) wansungRowsUptoCard
end Rows
end Go.Proofs.YtpnjandlpbjddabDoor
