/-
  DERIVED. GIVEN WITH THE SEED: THE CARDS: each row of YtiblofbgibjobaaDoorRows.lean that lists a variable, with what it lists TIED to the program's text (the seventh form; the later family's looks); each row that meets fmt, with fmt's text TOLD by the authors' own Lean function (tested against real Go, not proved from fmt's source: count such statements apart). THE CARD IS WHAT COUNTS. Prove the row's statement (the work); the ties are given (YtiblofbgibjobaaDoorTie.lean); close each card by the builder's one call (the guide's Derived/Test/ToyasCard.lean, 'card_holds'). Laid BY PROGRAM, IN A SANDBOX (cutbox-door.mjs). By AI agents, Wed Nov 11 2026. No macro, syntax, notation, axiom, sorry.
-/
import Derived.Test.YtiblofbgibjobaaDoorRows
import GoSem.ClaimSeven
namespace Go.Proofs.YtiblofbgibjobaaDoor
namespace Rows

/-- THE TIED CARD OF 'demesnelaw02.WordNumber'. -/
def wordNumberCard : Claim7 := { stood := { row := wordNumberRow, standIns := [], harness := (true, "91deb6f45120e8668d39aaeb31cb163e8a9b8760f4c2bdd113810f2cb47a89af"), looks := false }, kinds := [], alts := [], laidByText := true, laidKinds := [.widerDeep], laidTests := true, laidLooks := .later }
def WordNumberCardSaid : Prop := Claim7.holds Tryd.pinned (.plain (OpenSpec.ofChange wordNumberSpec)) wordNumberCard

/-- THE TIED CARD OF 'demesnelaw02.WordBack'. -/
def wordBackCard : Claim7 := { stood := { row := wordBackRow, standIns := [], harness := (true, "91deb6f45120e8668d39aaeb31cb163e8a9b8760f4c2bdd113810f2cb47a89af"), looks := false }, kinds := [], alts := [], laidByText := true, laidKinds := [.widerDeep], laidTests := true, laidLooks := .later }
def WordBackCardSaid : Prop := Claim7.holds Tryd.pinned (.plain (OpenSpec.ofChange wordBackSpec)) wordBackCard

/-- THE TIED CARD OF 'demesnelaw02.WordTells'. -/
def wordTellsCard : Claim7 := { stood := { row := wordTellsRow, standIns := [], harness := (true, "91deb6f45120e8668d39aaeb31cb163e8a9b8760f4c2bdd113810f2cb47a89af"), looks := false }, kinds := [], alts := [], laidByText := true, laidKinds := [.widerDeep], laidTests := true, laidLooks := .later }
def WordTellsCardSaid : Prop := Claim7.holds Tryd.pinned (.plain (OpenSpec.ofChange wordTellsSpec)) wordTellsCard

/-- THE SECOND FORM's CARD OF 'demesnelaw02.WordNumber'. -/
def wordNumberUptoCard : Claim7 := { stood := { row := wordNumberUptoRow, standIns := [], harness := (true, "91deb6f45120e8668d39aaeb31cb163e8a9b8760f4c2bdd113810f2cb47a89af"), looks := false }, kinds := [], alts := [], laidByText := true, laidKinds := [.widerDeep], laidTests := true, laidLooks := .later }
def WordNumberUptoCardSaid : Prop := Claim7.holds Tryd.pinned (.plain (OpenSpec.upto wordNumberSpec)) wordNumberUptoCard

/-- THE SECOND FORM's CARD OF 'demesnelaw02.WordBack'. -/
def wordBackUptoCard : Claim7 := { stood := { row := wordBackUptoRow, standIns := [], harness := (true, "91deb6f45120e8668d39aaeb31cb163e8a9b8760f4c2bdd113810f2cb47a89af"), looks := false }, kinds := [], alts := [], laidByText := true, laidKinds := [.widerDeep], laidTests := true, laidLooks := .later }
def WordBackUptoCardSaid : Prop := Claim7.holds Tryd.pinned (.plain (OpenSpec.upto wordBackSpec)) wordBackUptoCard

/-- THE SECOND FORM's CARD OF 'demesnelaw02.WordTells'. -/
def wordTellsUptoCard : Claim7 := { stood := { row := wordTellsUptoRow, standIns := [], harness := (true, "91deb6f45120e8668d39aaeb31cb163e8a9b8760f4c2bdd113810f2cb47a89af"), looks := false }, kinds := [], alts := [], laidByText := true, laidKinds := [.widerDeep], laidTests := true, laidLooks := .later }
def WordTellsUptoCardSaid : Prop := Claim7.holds Tryd.pinned (.plain (OpenSpec.upto wordTellsSpec)) wordTellsUptoCard
end Rows
end Go.Proofs.YtiblofbgibjobaaDoor
