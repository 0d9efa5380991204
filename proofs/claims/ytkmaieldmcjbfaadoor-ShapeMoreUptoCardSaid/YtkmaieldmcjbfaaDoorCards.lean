/-
  DERIVED. GIVEN WITH THE SEED: THE CARDS: each row of YtkmaieldmcjbfaaDoorRows.lean that lists a variable, with what it lists TIED to the program's text (the seventh form; the later family's looks); each row that meets fmt, with fmt's text TOLD by the authors' own Lean function (tested against real Go, not proved from fmt's source: count such statements apart). THE CARD IS WHAT COUNTS. Prove the row's statement (the work); the ties are given (YtkmaieldmcjbfaaDoorTie.lean); close each card by the builder's one call (the guide's Derived/Test/ToyasCard.lean, 'card_holds'). Laid BY PROGRAM, IN A SANDBOX (cutbox-door.mjs). By AI agents, Wed Nov 11 2026. No macro, syntax, notation, axiom, sorry.
-/
import Derived.Test.YtkmaieldmcjbfaaDoorRows
import GoSem.ClaimSeven
namespace Go.Proofs.YtkmaieldmcjbfaaDoor
namespace Rows

/-- THE TIED CARD OF 'demesnelaw05.KindTells'. -/
def kindTellsCard : Claim7 := { stood := { row := kindTellsRow, standIns := [], harness := (true, "632a13ede9a279907a2262363d48c595c8ef8457bff28589c68c91b97bcb1f85"), looks := false }, kinds := [], alts := [], laidByText := true, laidKinds := [.widerDeep], laidTests := true, laidLooks := .later }
def KindTellsCardSaid : Prop := Claim7.holds Tryd.pinned (.plain (OpenSpec.ofChange kindTellsSpec)) kindTellsCard

/-- THE TIED CARD OF 'demesnelaw05.KindApart'. -/
def kindApartCard : Claim7 := { stood := { row := kindApartRow, standIns := [], harness := (true, "632a13ede9a279907a2262363d48c595c8ef8457bff28589c68c91b97bcb1f85"), looks := false }, kinds := [], alts := [], laidByText := true, laidKinds := [.widerDeep], laidTests := true, laidLooks := .later }
def KindApartCardSaid : Prop := Claim7.holds Tryd.pinned (.plain (OpenSpec.ofChange kindApartSpec)) kindApartCard

/-- THE TIED CARD OF 'demesnelaw19.ShapeOf'. -/
def shapeOfCard : Claim7 := { stood := { row := shapeOfRow, standIns := [], harness := (true, "632a13ede9a279907a2262363d48c595c8ef8457bff28589c68c91b97bcb1f85"), looks := false }, kinds := [], alts := [], laidByText := true, laidKinds := [.widerDeep], laidTests := true, laidLooks := .later }
def ShapeOfCardSaid : Prop := Claim7.holds Tryd.pinned (.plain (OpenSpec.ofChange shapeOfSpec)) shapeOfCard

/-- THE TIED CARD OF 'demesnelaw19.ShapeMore'. -/
def shapeMoreCard : Claim7 := { stood := { row := shapeMoreRow, standIns := [], harness := (true, "632a13ede9a279907a2262363d48c595c8ef8457bff28589c68c91b97bcb1f85"), looks := false }, kinds := [], alts := [], laidByText := true, laidKinds := [.widerDeep], laidTests := true, laidLooks := .later }
def ShapeMoreCardSaid : Prop := Claim7.holds Tryd.pinned (.plain (OpenSpec.ofChange shapeMoreSpec)) shapeMoreCard

/-- THE TIED CARD OF 'demesnelaw05.KindWith'. -/
def kindWithCard : Claim7 := { stood := { row := kindWithRow, standIns := [], harness := (true, "632a13ede9a279907a2262363d48c595c8ef8457bff28589c68c91b97bcb1f85"), looks := false }, kinds := [], alts := [], laidByText := true, laidKinds := [.widerDeep], laidTests := true, laidLooks := .later }
def KindWithCardSaid : Prop := Claim7.holds Tryd.pinned (.plain (OpenSpec.ofChange kindWithSpec)) kindWithCard

/-- THE TIED CARD OF 'demesnelaw19.ShapeFits'. -/
def shapeFitsCard : Claim7 := { stood := { row := shapeFitsRow, standIns := [], harness := (true, "632a13ede9a279907a2262363d48c595c8ef8457bff28589c68c91b97bcb1f85"), looks := false }, kinds := [], alts := [], laidByText := true, laidKinds := [.widerDeep], laidTests := true, laidLooks := .later }
def ShapeFitsCardSaid : Prop := Claim7.holds Tryd.pinned (.plain (OpenSpec.ofChange shapeFitsSpec)) shapeFitsCard

/-- THE TIED CARD OF 'demesnelaw19.ShapeOrder'. -/
def shapeOrderCard : Claim7 := { stood := { row := shapeOrderRow, standIns := [], harness := (true, "632a13ede9a279907a2262363d48c595c8ef8457bff28589c68c91b97bcb1f85"), looks := false }, kinds := [], alts := [], laidByText := true, laidKinds := [.widerDeep], laidTests := true, laidLooks := .later }
def ShapeOrderCardSaid : Prop := Claim7.holds Tryd.pinned (.plain (OpenSpec.ofChange shapeOrderSpec)) shapeOrderCard

/-- THE SECOND FORM's CARD OF 'demesnelaw05.KindTells'. -/
def kindTellsUptoCard : Claim7 := { stood := { row := kindTellsUptoRow, standIns := [], harness := (true, "632a13ede9a279907a2262363d48c595c8ef8457bff28589c68c91b97bcb1f85"), looks := false }, kinds := [], alts := [], laidByText := true, laidKinds := [.widerDeep], laidTests := true, laidLooks := .later }
def KindTellsUptoCardSaid : Prop := Claim7.holds Tryd.pinned (.plain (OpenSpec.upto kindTellsSpec)) kindTellsUptoCard

/-- THE SECOND FORM's CARD OF 'demesnelaw05.KindApart'. -/
def kindApartUptoCard : Claim7 := { stood := { row := kindApartUptoRow, standIns := [], harness := (true, "632a13ede9a279907a2262363d48c595c8ef8457bff28589c68c91b97bcb1f85"), looks := false }, kinds := [], alts := [], laidByText := true, laidKinds := [.widerDeep], laidTests := true, laidLooks := .later }
def KindApartUptoCardSaid : Prop := Claim7.holds Tryd.pinned (.plain (OpenSpec.upto kindApartSpec)) kindApartUptoCard

/-- THE SECOND FORM's CARD OF 'demesnelaw19.ShapeOf'. -/
def shapeOfUptoCard : Claim7 := { stood := { row := shapeOfUptoRow, standIns := [], harness := (true, "632a13ede9a279907a2262363d48c595c8ef8457bff28589c68c91b97bcb1f85"), looks := false }, kinds := [], alts := [], laidByText := true, laidKinds := [.widerDeep], laidTests := true, laidLooks := .later }
def ShapeOfUptoCardSaid : Prop := Claim7.holds Tryd.pinned (.plain (OpenSpec.upto shapeOfSpec)) shapeOfUptoCard

/-- THE SECOND FORM's CARD OF 'demesnelaw19.ShapeMore'. -/
def shapeMoreUptoCard : Claim7 := { stood := { row := shapeMoreUptoRow, standIns := [], harness := (true, "632a13ede9a279907a2262363d48c595c8ef8457bff28589c68c91b97bcb1f85"), looks := false }, kinds := [], alts := [], laidByText := true, laidKinds := [.widerDeep], laidTests := true, laidLooks := .later }
def ShapeMoreUptoCardSaid : Prop := Claim7.holds Tryd.pinned (.plain (OpenSpec.upto shapeMoreSpec)) shapeMoreUptoCard

/-- THE SECOND FORM's CARD OF 'demesnelaw05.KindWith'. -/
def kindWithUptoCard : Claim7 := { stood := { row := kindWithUptoRow, standIns := [], harness := (true, "632a13ede9a279907a2262363d48c595c8ef8457bff28589c68c91b97bcb1f85"), looks := false }, kinds := [], alts := [], laidByText := true, laidKinds := [.widerDeep], laidTests := true, laidLooks := .later }
def KindWithUptoCardSaid : Prop := Claim7.holds Tryd.pinned (.plain (OpenSpec.upto kindWithSpec)) kindWithUptoCard

/-- THE SECOND FORM's CARD OF 'demesnelaw19.ShapeFits'. -/
def shapeFitsUptoCard : Claim7 := { stood := { row := shapeFitsUptoRow, standIns := [], harness := (true, "632a13ede9a279907a2262363d48c595c8ef8457bff28589c68c91b97bcb1f85"), looks := false }, kinds := [], alts := [], laidByText := true, laidKinds := [.widerDeep], laidTests := true, laidLooks := .later }
def ShapeFitsUptoCardSaid : Prop := Claim7.holds Tryd.pinned (.plain (OpenSpec.upto shapeFitsSpec)) shapeFitsUptoCard

/-- THE SECOND FORM's CARD OF 'demesnelaw19.ShapeOrder'. -/
def shapeOrderUptoCard : Claim7 := { stood := { row := shapeOrderUptoRow, standIns := [], harness := (true, "632a13ede9a279907a2262363d48c595c8ef8457bff28589c68c91b97bcb1f85"), looks := false }, kinds := [], alts := [], laidByText := true, laidKinds := [.widerDeep], laidTests := true, laidLooks := .later }
def ShapeOrderUptoCardSaid : Prop := Claim7.holds Tryd.pinned (.plain (OpenSpec.upto shapeOrderSpec)) shapeOrderUptoCard
end Rows
end Go.Proofs.YtkmaieldmcjbfaaDoor
