/-
  NARROWER THAN 'FOR EVERY INPUT', by the rows' own cells (each row's printed sentence says how): KindTells: laid · KindApart: laid · ShapeOf: loops, laid · ShapeMore: loops, laid · KindWith: laid · ShapeFits: loops, laid · ShapeOrder: loops, laid.
  DERIVED. THE GIVEN ROWS OF THIS SEAT. 7 by the template 'for every input the law returns true; each argument reads behind the call as it read before'; 0 by the template 'total and deterministic' (their statements: YtkmaieldmcjbfaaDoorTotals.lean).
  GIVEN WITH THE SEED: the statements are not yours to turn. If you find one false, say at which input.
  Laid BY PROGRAM, IN A SANDBOX (cutbox-rows.mjs): the forced cells as the released guide's own fill.sh prints them over the translation aba27360553d3542… (all of the seat's roots in one cut). By AI agents, Wed Nov 11 2026. No macro, syntax, notation, axiom, sorry.
-/
import Derived.Test.YtkmaieldmcjbfaaDoorChecked
import GoSem.Claim
import GoSem.ClaimJoined
import GoSem.ClaimMapViews
import Derived.JoinedTies
import Derived.KernelRfl
namespace Go.Proofs.YtkmaieldmcjbfaaDoor
/- THE CELL 'sum', in the pinned program and in every row, IS THE sha256 OF THE DUMP (.gsa) THAT YtkmaieldmcjbfaaDoorProg.lean LOADS. Nothing in Lean hashes anything: it is a label: what it is worth is what the hold of that sum in a sandbox is worth. -/
noncomputable def Tryd.pinned : Pinned := { name := "ytkmaieldmcjbfaadoor", sum := "aba27360553d35424d72d9db1803036b3e9110191498d1d7772aa6cf79e5521a", checked := Tryd.checked }
namespace Rows
def none {H : Type} : Left H := { results := [], args := [] }

/- WHAT THE LISTED PACKAGE-LEVEL VARIABLES READ AS WHEN THE CALL BEGINS. Each datum BY PROGRAM (the guide's laid-datum.mjs) off the statement by which the dump's own 'gosem.cut.vars' lays the variable. In a bare row this is a premise. The card (YtkmaieldmcjbfaaDoorCards.lean) ties it to the program's text. -/
def laid_demesne_word_words {H : Type} : DataW H := .agg [.lit (.string [99, 108, 97, 115, 115]), .lit (.string [101, 120, 116, 101, 110, 100, 115]), .lit (.string [114, 101, 112]), .lit (.string [112, 101, 101, 114]), .lit (.string [119, 111, 114, 108, 100]), .lit (.string [97, 110, 121]), .lit (.string [117, 110, 105, 113, 117, 101]), .lit (.string [112, 117, 114, 101]), .lit (.string [118, 111, 105, 100]), .lit (.string [105, 110, 116]), .lit (.string [105, 102]), .lit (.string [101, 108, 115, 101]), .lit (.string [119, 104, 105, 108, 101]), .lit (.string [114, 101, 116, 117, 114, 110]), .lit (.string [110, 101, 119]), .lit (.string [109, 111, 118, 101]), .lit (.string [100, 101, 108, 101, 116, 101]), .lit (.string [116, 104, 105, 115]), .lit (.string [110, 117, 108, 108]), .lit (.string [105, 110, 112, 117, 116]), .lit (.string [110, 105, 108]), .lit (.string [115, 97, 109, 101]), .lit (.string [99, 97, 115, 116])]

/-- 'demesnelaw05.KindTells': WHATEVER THE INPUT: true; the input reads as it did. -/
def kindTellsSpec : ChangeSpec := { name := "kindTells", fn := fun _ => fun
  | [d1, d2, d3] => { results := [.lit (.bool true)], args := [d1, d2, d3] }
  | _ => none }
def kindTellsRow : OpenClaim := { program := "ytkmaieldmcjbfaadoor", sum := "aba27360553d35424d72d9db1803036b3e9110191498d1d7772aa6cf79e5521a", func := "demesne/demesnelaw05.KindTells", spec := "kindTells", inPlace := ["internal/abi.NoEscape", "internal/bytealg.MakeNoZero"], unfollowed := true, recurses := true, named := ["demesne/word.words"], apart := false, laid := [("demesne/word.words", laid_demesne_word_words)] }
def KindTellsSaid : Prop := kindTellsRow.holds Tryd.pinned (OpenSpec.ofChange kindTellsSpec)

/-- ITS FALSE NEIGHBOUR: 'it returns false'. Refute it at one input. -/
def kindTellsWrong : ChangeSpec := { name := "kindTells", fn := fun _ => fun
  | [d1, d2, d3] => { results := [.lit (.bool false)], args := [d1, d2, d3] }
  | _ => none }
def KindTellsWrongFalsely : Prop := kindTellsRow.holds Tryd.pinned (OpenSpec.ofChange kindTellsWrong)

/-- 'demesnelaw05.KindApart': WHATEVER THE INPUT: true; the input reads as it did. -/
def kindApartSpec : ChangeSpec := { name := "kindApart", fn := fun _ => fun
  | [d1, d2, d3] => { results := [.lit (.bool true)], args := [d1, d2, d3] }
  | _ => none }
def kindApartRow : OpenClaim := { program := "ytkmaieldmcjbfaadoor", sum := "aba27360553d35424d72d9db1803036b3e9110191498d1d7772aa6cf79e5521a", func := "demesne/demesnelaw05.KindApart", spec := "kindApart", inPlace := ["internal/abi.NoEscape", "internal/bytealg.MakeNoZero"], unfollowed := true, recurses := true, named := ["demesne/word.words"], apart := false, laid := [("demesne/word.words", laid_demesne_word_words)] }
def KindApartSaid : Prop := kindApartRow.holds Tryd.pinned (OpenSpec.ofChange kindApartSpec)

/-- ITS FALSE NEIGHBOUR: 'it returns false'. Refute it at one input. -/
def kindApartWrong : ChangeSpec := { name := "kindApart", fn := fun _ => fun
  | [d1, d2, d3] => { results := [.lit (.bool false)], args := [d1, d2, d3] }
  | _ => none }
def KindApartWrongFalsely : Prop := kindApartRow.holds Tryd.pinned (OpenSpec.ofChange kindApartWrong)

/-- 'demesnelaw19.ShapeOf': WHATEVER THE INPUT: true; the input reads as it did. -/
def shapeOfSpec : ChangeSpec := { name := "shapeOf", fn := fun _ => fun
  | [d1, d2, d3] => { results := [.lit (.bool true)], args := [d1, d2, d3] }
  | _ => none }
def shapeOfRow : OpenClaim := { program := "ytkmaieldmcjbfaadoor", sum := "aba27360553d35424d72d9db1803036b3e9110191498d1d7772aa6cf79e5521a", func := "demesne/demesnelaw19.ShapeOf", spec := "shapeOf", unfollowed := true, recurses := true, named := ["demesne/word.words"], loops := true, apart := false, laid := [("demesne/word.words", laid_demesne_word_words)] }
def ShapeOfSaid : Prop := shapeOfRow.holds Tryd.pinned (OpenSpec.ofChange shapeOfSpec)

/-- ITS FALSE NEIGHBOUR: 'it returns false'. Refute it at one input. -/
def shapeOfWrong : ChangeSpec := { name := "shapeOf", fn := fun _ => fun
  | [d1, d2, d3] => { results := [.lit (.bool false)], args := [d1, d2, d3] }
  | _ => none }
def ShapeOfWrongFalsely : Prop := shapeOfRow.holds Tryd.pinned (OpenSpec.ofChange shapeOfWrong)

/-- 'demesnelaw19.ShapeMore': WHATEVER THE INPUT: true; the input reads as it did. -/
def shapeMoreSpec : ChangeSpec := { name := "shapeMore", fn := fun _ => fun
  | [d1, d2, d3] => { results := [.lit (.bool true)], args := [d1, d2, d3] }
  | _ => none }
def shapeMoreRow : OpenClaim := { program := "ytkmaieldmcjbfaadoor", sum := "aba27360553d35424d72d9db1803036b3e9110191498d1d7772aa6cf79e5521a", func := "demesne/demesnelaw19.ShapeMore", spec := "shapeMore", unfollowed := true, recurses := true, named := ["demesne/word.words"], loops := true, apart := false, laid := [("demesne/word.words", laid_demesne_word_words)] }
def ShapeMoreSaid : Prop := shapeMoreRow.holds Tryd.pinned (OpenSpec.ofChange shapeMoreSpec)

/-- ITS FALSE NEIGHBOUR: 'it returns false'. Refute it at one input. -/
def shapeMoreWrong : ChangeSpec := { name := "shapeMore", fn := fun _ => fun
  | [d1, d2, d3] => { results := [.lit (.bool false)], args := [d1, d2, d3] }
  | _ => none }
def ShapeMoreWrongFalsely : Prop := shapeMoreRow.holds Tryd.pinned (OpenSpec.ofChange shapeMoreWrong)

/-- 'demesnelaw05.KindWith': WHATEVER THE INPUT: true; the input reads as it did. -/
def kindWithSpec : ChangeSpec := { name := "kindWith", fn := fun _ => fun
  | [d1, d2] => { results := [.lit (.bool true)], args := [d1, d2] }
  | _ => none }
def kindWithRow : OpenClaim := { program := "ytkmaieldmcjbfaadoor", sum := "aba27360553d35424d72d9db1803036b3e9110191498d1d7772aa6cf79e5521a", func := "demesne/demesnelaw05.KindWith", spec := "kindWith", inPlace := ["internal/abi.NoEscape", "internal/bytealg.MakeNoZero"], unfollowed := true, recurses := true, named := ["demesne/word.words"], apart := false, laid := [("demesne/word.words", laid_demesne_word_words)] }
def KindWithSaid : Prop := kindWithRow.holds Tryd.pinned (OpenSpec.ofChange kindWithSpec)

/-- ITS FALSE NEIGHBOUR: 'it returns false'. Refute it at one input. -/
def kindWithWrong : ChangeSpec := { name := "kindWith", fn := fun _ => fun
  | [d1, d2] => { results := [.lit (.bool false)], args := [d1, d2] }
  | _ => none }
def KindWithWrongFalsely : Prop := kindWithRow.holds Tryd.pinned (OpenSpec.ofChange kindWithWrong)

/-- 'demesnelaw19.ShapeFits': WHATEVER THE INPUT: true; the input reads as it did. -/
def shapeFitsSpec : ChangeSpec := { name := "shapeFits", fn := fun _ => fun
  | [d1, d2, d3] => { results := [.lit (.bool true)], args := [d1, d2, d3] }
  | _ => none }
def shapeFitsRow : OpenClaim := { program := "ytkmaieldmcjbfaadoor", sum := "aba27360553d35424d72d9db1803036b3e9110191498d1d7772aa6cf79e5521a", func := "demesne/demesnelaw19.ShapeFits", spec := "shapeFits", unfollowed := true, recurses := true, named := ["demesne/word.words"], loops := true, apart := false, laid := [("demesne/word.words", laid_demesne_word_words)] }
def ShapeFitsSaid : Prop := shapeFitsRow.holds Tryd.pinned (OpenSpec.ofChange shapeFitsSpec)

/-- ITS FALSE NEIGHBOUR: 'it returns false'. Refute it at one input. -/
def shapeFitsWrong : ChangeSpec := { name := "shapeFits", fn := fun _ => fun
  | [d1, d2, d3] => { results := [.lit (.bool false)], args := [d1, d2, d3] }
  | _ => none }
def ShapeFitsWrongFalsely : Prop := shapeFitsRow.holds Tryd.pinned (OpenSpec.ofChange shapeFitsWrong)

/-- 'demesnelaw19.ShapeOrder': WHATEVER THE INPUT: true; the input reads as it did. -/
def shapeOrderSpec : ChangeSpec := { name := "shapeOrder", fn := fun _ => fun
  | [d1, d2] => { results := [.lit (.bool true)], args := [d1, d2] }
  | _ => none }
def shapeOrderRow : OpenClaim := { program := "ytkmaieldmcjbfaadoor", sum := "aba27360553d35424d72d9db1803036b3e9110191498d1d7772aa6cf79e5521a", func := "demesne/demesnelaw19.ShapeOrder", spec := "shapeOrder", unfollowed := true, recurses := true, named := ["demesne/word.words"], loops := true, apart := false, laid := [("demesne/word.words", laid_demesne_word_words)] }
def ShapeOrderSaid : Prop := shapeOrderRow.holds Tryd.pinned (OpenSpec.ofChange shapeOrderSpec)

/-- ITS FALSE NEIGHBOUR: 'it returns false'. Refute it at one input. -/
def shapeOrderWrong : ChangeSpec := { name := "shapeOrder", fn := fun _ => fun
  | [d1, d2] => { results := [.lit (.bool false)], args := [d1, d2] }
  | _ => none }
def ShapeOrderWrongFalsely : Prop := shapeOrderRow.holds Tryd.pinned (OpenSpec.ofChange shapeOrderWrong)

/- THE SECOND FORM. 'bulk': how many values and letters a reading holds, each counted each time it is reached (what is shared counts as often as it is met; a slice's spare places count too). A statement '..UptoSaid' is the law's where the arguments, and the package variables that the reading takes, are together of bulk at most 1048576: NARROWER than '..Said'. Prove '..Said' where nothing that the law and all that it calls make is longer than what came in: it says more and counts as full. Else prove '..UptoSaid'. A law counts once. -/
mutual
def uptoBulk {H : Type} : DataW H → Nat
  | .lit (.string bytes) => bytes.length + 1
  | .lit _ => 1
  | .nil => 1
  | .ptr d => uptoBulk d + 1
  | .slice elems spare => uptoBulkAll elems + uptoBulkAll spare + 1
  | .agg parts => uptoBulkAll parts + 1
  | .iface _ d => uptoBulk d + 1
  | .map entries => uptoBulkEntries entries + 1
  | .held _ => 1
def uptoBulkAll {H : Type} : List (DataW H) → Nat
  | [] => 0
  | d :: r => uptoBulk d + uptoBulkAll r
def uptoBulkEntries {H : Type} : List (Lit × DataW H) → Nat
  | [] => 0
  | x :: r => uptoBulkEntry x + uptoBulkEntries r
def uptoBulkEntry {H : Type} : Lit × DataW H → Nat
  | (.string bytes, d) => bytes.length + uptoBulk d + 1
  | (_, d) => uptoBulk d + 1
 end
def uptoSmall : (H : Type) → List (DataW H) → Bool := fun _ ds => decide (uptoBulkAll ds ≤ 1048576)
def OpenSpec.upto (s : _root_.Go.ChangeSpec) : _root_.Go.OpenSpec := { _root_.Go.OpenSpec.ofChange s with cond := some uptoSmall }

/-- 'demesnelaw05.KindTells', WHERE WHAT IT READS IS OF BULK AT MOST 1048576: true; the input reads as it did. -/
def kindTellsUptoRow : OpenClaim := { program := "ytkmaieldmcjbfaadoor", sum := "aba27360553d35424d72d9db1803036b3e9110191498d1d7772aa6cf79e5521a", func := "demesne/demesnelaw05.KindTells", spec := "kindTells", inPlace := ["internal/abi.NoEscape", "internal/bytealg.MakeNoZero"], unfollowed := true, recurses := true, named := ["demesne/word.words"], apart := false, laid := [("demesne/word.words", laid_demesne_word_words)], narrowed := true }
def KindTellsUptoSaid : Prop := kindTellsUptoRow.holds Tryd.pinned (OpenSpec.upto kindTellsSpec)

/-- 'demesnelaw05.KindApart', WHERE WHAT IT READS IS OF BULK AT MOST 1048576: true; the input reads as it did. -/
def kindApartUptoRow : OpenClaim := { program := "ytkmaieldmcjbfaadoor", sum := "aba27360553d35424d72d9db1803036b3e9110191498d1d7772aa6cf79e5521a", func := "demesne/demesnelaw05.KindApart", spec := "kindApart", inPlace := ["internal/abi.NoEscape", "internal/bytealg.MakeNoZero"], unfollowed := true, recurses := true, named := ["demesne/word.words"], apart := false, laid := [("demesne/word.words", laid_demesne_word_words)], narrowed := true }
def KindApartUptoSaid : Prop := kindApartUptoRow.holds Tryd.pinned (OpenSpec.upto kindApartSpec)

/-- 'demesnelaw19.ShapeOf', WHERE WHAT IT READS IS OF BULK AT MOST 1048576: true; the input reads as it did. -/
def shapeOfUptoRow : OpenClaim := { program := "ytkmaieldmcjbfaadoor", sum := "aba27360553d35424d72d9db1803036b3e9110191498d1d7772aa6cf79e5521a", func := "demesne/demesnelaw19.ShapeOf", spec := "shapeOf", unfollowed := true, recurses := true, named := ["demesne/word.words"], loops := true, apart := false, laid := [("demesne/word.words", laid_demesne_word_words)], narrowed := true }
def ShapeOfUptoSaid : Prop := shapeOfUptoRow.holds Tryd.pinned (OpenSpec.upto shapeOfSpec)

/-- 'demesnelaw19.ShapeMore', WHERE WHAT IT READS IS OF BULK AT MOST 1048576: true; the input reads as it did. -/
def shapeMoreUptoRow : OpenClaim := { program := "ytkmaieldmcjbfaadoor", sum := "aba27360553d35424d72d9db1803036b3e9110191498d1d7772aa6cf79e5521a", func := "demesne/demesnelaw19.ShapeMore", spec := "shapeMore", unfollowed := true, recurses := true, named := ["demesne/word.words"], loops := true, apart := false, laid := [("demesne/word.words", laid_demesne_word_words)], narrowed := true }
def ShapeMoreUptoSaid : Prop := shapeMoreUptoRow.holds Tryd.pinned (OpenSpec.upto shapeMoreSpec)

/-- 'demesnelaw05.KindWith', WHERE WHAT IT READS IS OF BULK AT MOST 1048576: true; the input reads as it did. -/
def kindWithUptoRow : OpenClaim := { program := "ytkmaieldmcjbfaadoor", sum := "aba27360553d35424d72d9db1803036b3e9110191498d1d7772aa6cf79e5521a", func := "demesne/demesnelaw05.KindWith", spec := "kindWith", inPlace := ["internal/abi.NoEscape", "internal/bytealg.MakeNoZero"], unfollowed := true, recurses := true, named := ["demesne/word.words"], apart := false, laid := [("demesne/word.words", laid_demesne_word_words)], narrowed := true }
def KindWithUptoSaid : Prop := kindWithUptoRow.holds Tryd.pinned (OpenSpec.upto kindWithSpec)

/-- 'demesnelaw19.ShapeFits', WHERE WHAT IT READS IS OF BULK AT MOST 1048576: true; the input reads as it did. -/
def shapeFitsUptoRow : OpenClaim := { program := "ytkmaieldmcjbfaadoor", sum := "aba27360553d35424d72d9db1803036b3e9110191498d1d7772aa6cf79e5521a", func := "demesne/demesnelaw19.ShapeFits", spec := "shapeFits", unfollowed := true, recurses := true, named := ["demesne/word.words"], loops := true, apart := false, laid := [("demesne/word.words", laid_demesne_word_words)], narrowed := true }
def ShapeFitsUptoSaid : Prop := shapeFitsUptoRow.holds Tryd.pinned (OpenSpec.upto shapeFitsSpec)

/-- 'demesnelaw19.ShapeOrder', WHERE WHAT IT READS IS OF BULK AT MOST 1048576: true; the input reads as it did. -/
def shapeOrderUptoRow : OpenClaim := { program := "ytkmaieldmcjbfaadoor", sum := "aba27360553d35424d72d9db1803036b3e9110191498d1d7772aa6cf79e5521a", func := "demesne/demesnelaw19.ShapeOrder", spec := "shapeOrder", unfollowed := true, recurses := true, named := ["demesne/word.words"], loops := true, apart := false, laid := [("demesne/word.words", laid_demesne_word_words)], narrowed := true }
def ShapeOrderUptoSaid : Prop := shapeOrderUptoRow.holds Tryd.pinned (OpenSpec.upto shapeOrderSpec)

end Rows
end Go.Proofs.YtkmaieldmcjbfaaDoor
