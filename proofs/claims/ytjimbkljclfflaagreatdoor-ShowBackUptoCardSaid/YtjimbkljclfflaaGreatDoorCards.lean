/-
  DERIVED. GIVEN WITH THE SEED: THE CARDS: each row of YtjimbkljclfflaaGreatDoorRows.lean that lists a variable, with what it lists TIED to the program's text (the seventh form; the later family's looks); each row that meets fmt, with fmt's text TOLD by the authors' own Lean function (tested against real Go, not proved from fmt's source: count such statements apart). THE CARD IS WHAT COUNTS. Prove the row's statement (the work); the ties are given (YtjimbkljclfflaaGreatDoorTie.lean); close each card by the builder's one call (the guide's Derived/Test/ToyasCard.lean, 'card_holds'). Laid BY PROGRAM, IN A SANDBOX (cutbox-door.mjs). By AI agents, Wed Nov 11 2026. No macro, syntax, notation, axiom, sorry.
-/
import Derived.Test.YtjimbkljclfflaaGreatDoorRows
import GoSem.ClaimSeven
namespace Go.Proofs.YtjimbkljclfflaaGreatDoor
namespace Rows

/-- THE TIED CARD OF 'demesnelaw11.ShowBack'. -/
def showBackCard : Claim7 := { stood := { row := showBackRow, standIns := [], harness := (true, "3b7559ab911d57923ccd8cb62ef95bc39c9d8bf73efa2c01a69fcbfd391dba69"), looks := false }, kinds := [], alts := [], laidByText := true, laidKinds := [.widerDeep, .widerDeep], laidTests := true, laidLooks := .later }
def ShowBackCardSaid : Prop := Claim7.holds Tryz.pinned (.plain (OpenSpec.ofChange showBackSpec)) showBackCard

/-- THE TIED CARD OF 'demesnelaw11.ShowAgain'. -/
def showAgainCard : Claim7 := { stood := { row := showAgainRow, standIns := [], harness := (true, "3b7559ab911d57923ccd8cb62ef95bc39c9d8bf73efa2c01a69fcbfd391dba69"), looks := false }, kinds := [], alts := [], laidByText := true, laidKinds := [.widerDeep, .widerDeep], laidTests := true, laidLooks := .later }
def ShowAgainCardSaid : Prop := Claim7.holds Tryz.pinned (.plain (OpenSpec.ofChange showAgainSpec)) showAgainCard

/-- THE TIED CARD OF 'demesnelaw11.ShowText'. -/
def showTextCard : Claim7 := { stood := { row := showTextRow, standIns := [], harness := (true, "3b7559ab911d57923ccd8cb62ef95bc39c9d8bf73efa2c01a69fcbfd391dba69"), looks := false }, kinds := [], alts := [], laidByText := true, laidKinds := [.widerDeep, .widerDeep], laidTests := true, laidLooks := .later }
def ShowTextCardSaid : Prop := Claim7.holds Tryz.pinned (.plain (OpenSpec.ofChange showTextSpec)) showTextCard

/-- THE SECOND FORM's CARD OF 'demesnelaw11.ShowBack'. -/
def showBackUptoCard : Claim7 := { stood := { row := showBackUptoRow, standIns := [], harness := (true, "3b7559ab911d57923ccd8cb62ef95bc39c9d8bf73efa2c01a69fcbfd391dba69"), looks := false }, kinds := [], alts := [], laidByText := true, laidKinds := [.widerDeep, .widerDeep], laidTests := true, laidLooks := .later }
def ShowBackUptoCardSaid : Prop := Claim7.holds Tryz.pinned (.plain (OpenSpec.upto showBackSpec)) showBackUptoCard

/-- THE SECOND FORM's CARD OF 'demesnelaw11.ShowAgain'. -/
def showAgainUptoCard : Claim7 := { stood := { row := showAgainUptoRow, standIns := [], harness := (true, "3b7559ab911d57923ccd8cb62ef95bc39c9d8bf73efa2c01a69fcbfd391dba69"), looks := false }, kinds := [], alts := [], laidByText := true, laidKinds := [.widerDeep, .widerDeep], laidTests := true, laidLooks := .later }
def ShowAgainUptoCardSaid : Prop := Claim7.holds Tryz.pinned (.plain (OpenSpec.upto showAgainSpec)) showAgainUptoCard

/-- THE SECOND FORM's CARD OF 'demesnelaw11.ShowText'. -/
def showTextUptoCard : Claim7 := { stood := { row := showTextUptoRow, standIns := [], harness := (true, "3b7559ab911d57923ccd8cb62ef95bc39c9d8bf73efa2c01a69fcbfd391dba69"), looks := false }, kinds := [], alts := [], laidByText := true, laidKinds := [.widerDeep, .widerDeep], laidTests := true, laidLooks := .later }
def ShowTextUptoCardSaid : Prop := Claim7.holds Tryz.pinned (.plain (OpenSpec.upto showTextSpec)) showTextUptoCard
end Rows
end Go.Proofs.YtjimbkljclfflaaGreatDoor
