/-
  DERIVED. GIVEN WITH THE SEED: THE CARDS: each row of YtnnphkfiookbnaaDoorRows.lean that lists a variable, with what it lists TIED to the program's text (the seventh form; the later family's looks); each row that meets fmt, with fmt's text TOLD by the authors' own Lean function (tested against real Go, not proved from fmt's source: count such statements apart). THE CARD IS WHAT COUNTS. Prove the row's statement (the work); the ties are given (YtnnphkfiookbnaaDoorTie.lean); close each card by the builder's one call (the guide's Derived/Test/ToyasCard.lean, 'card_holds'). Laid BY PROGRAM, IN A SANDBOX (cutbox-door.mjs). By AI agents, Wed Nov 11 2026. No macro, syntax, notation, axiom, sorry.
-/
import Derived.Test.YtnnphkfiookbnaaDoorRows
import GoSem.ClaimSeven
namespace Go.Proofs.YtnnphkfiookbnaaDoor
namespace Rows

/-- THE TIED CARD OF 'demesnelaw39.CalcOf'. -/
def calcOfCard : Claim7 := { stood := { row := calcOfRow, standIns := [], harness := (true, "592343231a83734f064e044b4eb4ae56ede2c5eacb10ceb7c041f4d32bcfcd30"), looks := false }, kinds := [], alts := [], laidByText := true, laidKinds := [.widerDeep], laidTests := true, laidLooks := .later }
def CalcOfCardSaid : Prop := Claim7.holds Tryd.pinned (.plain (OpenSpec.ofChange calcOfSpec)) calcOfCard

/-- THE TIED CARD OF 'demesnelaw39.CalcAll'. -/
def calcAllCard : Claim7 := { stood := { row := calcAllRow, standIns := [], harness := (true, "592343231a83734f064e044b4eb4ae56ede2c5eacb10ceb7c041f4d32bcfcd30"), looks := false }, kinds := [], alts := [], laidByText := true, laidKinds := [.widerDeep], laidTests := true, laidLooks := .later }
def CalcAllCardSaid : Prop := Claim7.holds Tryd.pinned (.plain (OpenSpec.ofChange calcAllSpec)) calcAllCard

/-- THE TIED CARD OF 'demesnelaw39.CalcInput'. -/
def calcInputCard : Claim7 := { stood := { row := calcInputRow, standIns := [], harness := (true, "592343231a83734f064e044b4eb4ae56ede2c5eacb10ceb7c041f4d32bcfcd30"), looks := false }, kinds := [], alts := [], laidByText := true, laidKinds := [.widerDeep], laidTests := true, laidLooks := .later }
def CalcInputCardSaid : Prop := Claim7.holds Tryd.pinned (.plain (OpenSpec.ofChange calcInputSpec)) calcInputCard

/-- THE TIED CARD OF 'demesnelaw49.ScriptRead'. -/
def scriptReadCard : Claim7 := { stood := { row := scriptReadRow, standIns := [], harness := (true, "592343231a83734f064e044b4eb4ae56ede2c5eacb10ceb7c041f4d32bcfcd30"), looks := false }, kinds := [], alts := [], laidByText := true, laidKinds := [.data, .pinned], laidTests := true, laidLooks := .later }
def ScriptReadCardSaid : Prop := Claim7.holds Tryd.pinned (.plain (OpenSpec.ofChange scriptReadSpec)) scriptReadCard

/-- THE TIED CARD OF 'demesnelaw49.ScriptText'. -/
def scriptTextCard : Claim7 := { stood := { row := scriptTextRow, standIns := [], harness := (true, "592343231a83734f064e044b4eb4ae56ede2c5eacb10ceb7c041f4d32bcfcd30"), looks := false }, kinds := [], alts := [], laidByText := true, laidKinds := [.data, .pinned], laidTests := true, laidLooks := .later }
def ScriptTextCardSaid : Prop := Claim7.holds Tryd.pinned (.plain (OpenSpec.ofChange scriptTextSpec)) scriptTextCard

/-- THE TIED CARD OF 'demesnelaw49.ScriptBack'. -/
def scriptBackCard : Claim7 := { stood := { row := scriptBackRow, standIns := [], harness := (true, "592343231a83734f064e044b4eb4ae56ede2c5eacb10ceb7c041f4d32bcfcd30"), looks := false }, kinds := [], alts := [], laidByText := true, laidKinds := [.data, .pinned], laidTests := true, laidLooks := .later }
def ScriptBackCardSaid : Prop := Claim7.holds Tryd.pinned (.plain (OpenSpec.ofChange scriptBackSpec)) scriptBackCard

/-- THE SECOND FORM's CARD OF 'demesnelaw39.CalcOf'. -/
def calcOfUptoCard : Claim7 := { stood := { row := calcOfUptoRow, standIns := [], harness := (true, "592343231a83734f064e044b4eb4ae56ede2c5eacb10ceb7c041f4d32bcfcd30"), looks := false }, kinds := [], alts := [], laidByText := true, laidKinds := [.widerDeep], laidTests := true, laidLooks := .later }
def CalcOfUptoCardSaid : Prop := Claim7.holds Tryd.pinned (.plain (OpenSpec.upto calcOfSpec)) calcOfUptoCard

/-- THE SECOND FORM's CARD OF 'demesnelaw39.CalcAll'. -/
def calcAllUptoCard : Claim7 := { stood := { row := calcAllUptoRow, standIns := [], harness := (true, "592343231a83734f064e044b4eb4ae56ede2c5eacb10ceb7c041f4d32bcfcd30"), looks := false }, kinds := [], alts := [], laidByText := true, laidKinds := [.widerDeep], laidTests := true, laidLooks := .later }
def CalcAllUptoCardSaid : Prop := Claim7.holds Tryd.pinned (.plain (OpenSpec.upto calcAllSpec)) calcAllUptoCard

/-- THE SECOND FORM's CARD OF 'demesnelaw39.CalcInput'. -/
def calcInputUptoCard : Claim7 := { stood := { row := calcInputUptoRow, standIns := [], harness := (true, "592343231a83734f064e044b4eb4ae56ede2c5eacb10ceb7c041f4d32bcfcd30"), looks := false }, kinds := [], alts := [], laidByText := true, laidKinds := [.widerDeep], laidTests := true, laidLooks := .later }
def CalcInputUptoCardSaid : Prop := Claim7.holds Tryd.pinned (.plain (OpenSpec.upto calcInputSpec)) calcInputUptoCard

/-- THE SECOND FORM's CARD OF 'demesnelaw49.ScriptRead'. -/
def scriptReadUptoCard : Claim7 := { stood := { row := scriptReadUptoRow, standIns := [], harness := (true, "592343231a83734f064e044b4eb4ae56ede2c5eacb10ceb7c041f4d32bcfcd30"), looks := false }, kinds := [], alts := [], laidByText := true, laidKinds := [.data, .pinned], laidTests := true, laidLooks := .later }
def ScriptReadUptoCardSaid : Prop := Claim7.holds Tryd.pinned (.plain (OpenSpec.upto scriptReadSpec)) scriptReadUptoCard

/-- THE SECOND FORM's CARD OF 'demesnelaw49.ScriptText'. -/
def scriptTextUptoCard : Claim7 := { stood := { row := scriptTextUptoRow, standIns := [], harness := (true, "592343231a83734f064e044b4eb4ae56ede2c5eacb10ceb7c041f4d32bcfcd30"), looks := false }, kinds := [], alts := [], laidByText := true, laidKinds := [.data, .pinned], laidTests := true, laidLooks := .later }
def ScriptTextUptoCardSaid : Prop := Claim7.holds Tryd.pinned (.plain (OpenSpec.upto scriptTextSpec)) scriptTextUptoCard

/-- THE SECOND FORM's CARD OF 'demesnelaw49.ScriptBack'. -/
def scriptBackUptoCard : Claim7 := { stood := { row := scriptBackUptoRow, standIns := [], harness := (true, "592343231a83734f064e044b4eb4ae56ede2c5eacb10ceb7c041f4d32bcfcd30"), looks := false }, kinds := [], alts := [], laidByText := true, laidKinds := [.data, .pinned], laidTests := true, laidLooks := .later }
def ScriptBackUptoCardSaid : Prop := Claim7.holds Tryd.pinned (.plain (OpenSpec.upto scriptBackSpec)) scriptBackUptoCard
end Rows
end Go.Proofs.YtnnphkfiookbnaaDoor
