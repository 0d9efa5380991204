/-
  DERIVED. GIVEN WITH THE SEED: THE CARDS: each row of YtccladleehbmhaaDoorRows.lean that lists a variable, with what it lists TIED to the program's text (the seventh form; the later family's looks); each row that meets fmt, with fmt's text TOLD by the authors' own Lean function (tested against real Go, not proved from fmt's source: count such statements apart). THE CARD IS WHAT COUNTS. Prove the row's statement (the work); the ties are given (YtccladleehbmhaaDoorTie.lean); close each card by the builder's one call (the guide's Derived/Test/ToyasCard.lean, 'card_holds'). Laid BY PROGRAM, IN A SANDBOX (cutbox-door.mjs). By AI agents, Wed Nov 11 2026. No macro, syntax, notation, axiom, sorry.
-/
import Derived.Test.YtccladleehbmhaaDoorRows
import GoSem.ClaimSeven
namespace Go.Proofs.YtccladleehbmhaaDoor
namespace Rows

/-- THE TIED CARD OF 'demesnelaw42.EventRead'. -/
def eventReadCard : Claim7 := { stood := { row := eventReadRow, standIns := [], harness := (true, "a368002b912cf807b4917d4ae62a946bec8fb2067758b055461d8ba764745e5b"), looks := false }, kinds := [], alts := [], laidByText := true, laidKinds := [.data, .widerDeep, .listed, .data, .pinned], laidTests := true, laidLooks := .later }
def EventReadCardSaid : Prop := Claim7.holds Tryd.pinned (.plain (OpenSpec.ofChange eventReadSpec)) eventReadCard

/-- THE TIED CARD OF 'demesnelaw42.EventText'. -/
def eventTextCard : Claim7 := { stood := { row := eventTextRow, standIns := [], harness := (true, "a368002b912cf807b4917d4ae62a946bec8fb2067758b055461d8ba764745e5b"), looks := false }, kinds := [], alts := [], laidByText := true, laidKinds := [.data, .widerDeep, .listed, .data, .pinned], laidTests := true, laidLooks := .later }
def EventTextCardSaid : Prop := Claim7.holds Tryd.pinned (.plain (OpenSpec.ofChange eventTextSpec)) eventTextCard

/-- THE TIED CARD OF 'demesnelaw42.EventBack'. -/
def eventBackCard : Claim7 := { stood := { row := eventBackRow, standIns := [], harness := (true, "a368002b912cf807b4917d4ae62a946bec8fb2067758b055461d8ba764745e5b"), looks := false }, kinds := [], alts := [], laidByText := true, laidKinds := [.data, .widerDeep, .listed, .data, .pinned], laidTests := true, laidLooks := .later }
def EventBackCardSaid : Prop := Claim7.holds Tryd.pinned (.plain (OpenSpec.ofChange eventBackSpec)) eventBackCard

/-- THE SECOND FORM's CARD OF 'demesnelaw42.EventRead'. -/
def eventReadUptoCard : Claim7 := { stood := { row := eventReadUptoRow, standIns := [], harness := (true, "a368002b912cf807b4917d4ae62a946bec8fb2067758b055461d8ba764745e5b"), looks := false }, kinds := [], alts := [], laidByText := true, laidKinds := [.data, .widerDeep, .listed, .data, .pinned], laidTests := true, laidLooks := .later }
def EventReadUptoCardSaid : Prop := Claim7.holds Tryd.pinned (.plain (OpenSpec.upto eventReadSpec)) eventReadUptoCard

/-- THE SECOND FORM's CARD OF 'demesnelaw42.EventText'. -/
def eventTextUptoCard : Claim7 := { stood := { row := eventTextUptoRow, standIns := [], harness := (true, "a368002b912cf807b4917d4ae62a946bec8fb2067758b055461d8ba764745e5b"), looks := false }, kinds := [], alts := [], laidByText := true, laidKinds := [.data, .widerDeep, .listed, .data, .pinned], laidTests := true, laidLooks := .later }
def EventTextUptoCardSaid : Prop := Claim7.holds Tryd.pinned (.plain (OpenSpec.upto eventTextSpec)) eventTextUptoCard

/-- THE SECOND FORM's CARD OF 'demesnelaw42.EventBack'. -/
def eventBackUptoCard : Claim7 := { stood := { row := eventBackUptoRow, standIns := [], harness := (true, "a368002b912cf807b4917d4ae62a946bec8fb2067758b055461d8ba764745e5b"), looks := false }, kinds := [], alts := [], laidByText := true, laidKinds := [.data, .widerDeep, .listed, .data, .pinned], laidTests := true, laidLooks := .later }
def EventBackUptoCardSaid : Prop := Claim7.holds Tryd.pinned (.plain (OpenSpec.upto eventBackSpec)) eventBackUptoCard
end Rows
end Go.Proofs.YtccladleehbmhaaDoor
