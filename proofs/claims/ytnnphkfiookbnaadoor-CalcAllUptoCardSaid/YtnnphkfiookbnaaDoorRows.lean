/-
  NARROWER THAN 'FOR EVERY INPUT', by the rows' own cells (each row's printed sentence says how): CalcOf: loops, laid · CalcAll: loops, laid · CalcInput: loops, laid · ScriptRead: laid · ScriptText: laid · ScriptBack: laid.
  DERIVED. THE GIVEN ROWS OF THIS SEAT. 6 by the template 'for every input the law returns true; each argument reads behind the call as it read before'; 0 by the template 'total and deterministic' (their statements: YtnnphkfiookbnaaDoorTotals.lean).
  GIVEN WITH THE SEED: the statements are not yours to turn. If you find one false, say at which input.
  Laid BY PROGRAM, IN A SANDBOX (cutbox-rows.mjs): the forced cells as the released guide's own fill.sh prints them over the translation a085850c7bff1623… (all of the seat's roots in one cut). By AI agents, Wed Nov 11 2026. No macro, syntax, notation, axiom, sorry.
-/
import Derived.Test.YtnnphkfiookbnaaDoorChecked
import GoSem.PinnedTables
import GoSem.Claim
import GoSem.ClaimJoined
import GoSem.ClaimMapViews
import Derived.JoinedTies
import Derived.KernelRfl
namespace Go.Proofs.YtnnphkfiookbnaaDoor
/- THE CELL 'sum', in the pinned program and in every row, IS THE sha256 OF THE DUMP (.gsa) THAT YtnnphkfiookbnaaDoorProg.lean LOADS. Nothing in Lean hashes anything: it is a label: what it is worth is what the hold of that sum in a sandbox is worth. -/
noncomputable def Tryd.pinned : Pinned := { name := "ytnnphkfiookbnaadoor", sum := "a085850c7bff16235aa109564c5e7521a07f884494844276b667eb5742b910b6", checked := Tryd.checked }
namespace Rows
def none {H : Type} : Left H := { results := [], args := [] }

/- WHAT THE LISTED PACKAGE-LEVEL VARIABLES READ AS WHEN THE CALL BEGINS. Each datum BY PROGRAM (the guide's laid-datum.mjs) off the statement by which the dump's own 'gosem.cut.vars' lays the variable. In a bare row this is a premise. The card (YtnnphkfiookbnaaDoorCards.lean) ties it to the program's text. -/
def laid_demesne_word_words {H : Type} : DataW H := .agg [.lit (.string [99, 108, 97, 115, 115]), .lit (.string [101, 120, 116, 101, 110, 100, 115]), .lit (.string [114, 101, 112]), .lit (.string [112, 101, 101, 114]), .lit (.string [119, 111, 114, 108, 100]), .lit (.string [97, 110, 121]), .lit (.string [117, 110, 105, 113, 117, 101]), .lit (.string [112, 117, 114, 101]), .lit (.string [118, 111, 105, 100]), .lit (.string [105, 110, 116]), .lit (.string [105, 102]), .lit (.string [101, 108, 115, 101]), .lit (.string [119, 104, 105, 108, 101]), .lit (.string [114, 101, 116, 117, 114, 110]), .lit (.string [110, 101, 119]), .lit (.string [109, 111, 118, 101]), .lit (.string [100, 101, 108, 101, 116, 101]), .lit (.string [116, 104, 105, 115]), .lit (.string [110, 117, 108, 108]), .lit (.string [105, 110, 112, 117, 116]), .lit (.string [110, 105, 108]), .lit (.string [115, 97, 109, 101]), .lit (.string [99, 97, 115, 116])]
def laid_unicode_utf8_acceptRanges {H : Type} : DataW H := .agg [.agg [.lit (.int .u8 128), .lit (.int .u8 191)], .agg [.lit (.int .u8 160), .lit (.int .u8 191)], .agg [.lit (.int .u8 128), .lit (.int .u8 159)], .agg [.lit (.int .u8 144), .lit (.int .u8 191)], .agg [.lit (.int .u8 128), .lit (.int .u8 143)], .agg [.lit (.int .u8 0), .lit (.int .u8 0)], .agg [.lit (.int .u8 0), .lit (.int .u8 0)], .agg [.lit (.int .u8 0), .lit (.int .u8 0)], .agg [.lit (.int .u8 0), .lit (.int .u8 0)], .agg [.lit (.int .u8 0), .lit (.int .u8 0)], .agg [.lit (.int .u8 0), .lit (.int .u8 0)], .agg [.lit (.int .u8 0), .lit (.int .u8 0)], .agg [.lit (.int .u8 0), .lit (.int .u8 0)], .agg [.lit (.int .u8 0), .lit (.int .u8 0)], .agg [.lit (.int .u8 0), .lit (.int .u8 0)], .agg [.lit (.int .u8 0), .lit (.int .u8 0)]]
/-- One of Go's own tables, pinned by name: the form's constant. -/
def laid_unicode_utf8_first : DataW Unit := Go.Pinned.utf8First

/-- 'demesnelaw39.CalcOf': WHATEVER THE INPUT: true; the input reads as it did. -/
def calcOfSpec : ChangeSpec := { name := "calcOf", fn := fun _ => fun
  | [d1, d2, d3] => { results := [.lit (.bool true)], args := [d1, d2, d3] }
  | _ => none }
def calcOfRow : OpenClaim := { program := "ytnnphkfiookbnaadoor", sum := "a085850c7bff16235aa109564c5e7521a07f884494844276b667eb5742b910b6", func := "demesne/demesnelaw39.CalcOf", spec := "calcOf", unfollowed := true, recurses := true, named := ["demesne/word.words"], loops := true, apart := false, laid := [("demesne/word.words", laid_demesne_word_words)] }
def CalcOfSaid : Prop := calcOfRow.holds Tryd.pinned (OpenSpec.ofChange calcOfSpec)

/-- ITS FALSE NEIGHBOUR: 'it returns false'. Refute it at one input. -/
def calcOfWrong : ChangeSpec := { name := "calcOf", fn := fun _ => fun
  | [d1, d2, d3] => { results := [.lit (.bool false)], args := [d1, d2, d3] }
  | _ => none }
def CalcOfWrongFalsely : Prop := calcOfRow.holds Tryd.pinned (OpenSpec.ofChange calcOfWrong)

/-- 'demesnelaw39.CalcAll': WHATEVER THE INPUT: true; the input reads as it did. -/
def calcAllSpec : ChangeSpec := { name := "calcAll", fn := fun _ => fun
  | [d1, d2, d3] => { results := [.lit (.bool true)], args := [d1, d2, d3] }
  | _ => none }
def calcAllRow : OpenClaim := { program := "ytnnphkfiookbnaadoor", sum := "a085850c7bff16235aa109564c5e7521a07f884494844276b667eb5742b910b6", func := "demesne/demesnelaw39.CalcAll", spec := "calcAll", unfollowed := true, recurses := true, named := ["demesne/word.words"], loops := true, apart := false, laid := [("demesne/word.words", laid_demesne_word_words)] }
def CalcAllSaid : Prop := calcAllRow.holds Tryd.pinned (OpenSpec.ofChange calcAllSpec)

/-- ITS FALSE NEIGHBOUR: 'it returns false'. Refute it at one input. -/
def calcAllWrong : ChangeSpec := { name := "calcAll", fn := fun _ => fun
  | [d1, d2, d3] => { results := [.lit (.bool false)], args := [d1, d2, d3] }
  | _ => none }
def CalcAllWrongFalsely : Prop := calcAllRow.holds Tryd.pinned (OpenSpec.ofChange calcAllWrong)

/-- 'demesnelaw39.CalcInput': WHATEVER THE INPUT: true; the input reads as it did. -/
def calcInputSpec : ChangeSpec := { name := "calcInput", fn := fun _ => fun
  | [d1, d2, d3] => { results := [.lit (.bool true)], args := [d1, d2, d3] }
  | _ => none }
def calcInputRow : OpenClaim := { program := "ytnnphkfiookbnaadoor", sum := "a085850c7bff16235aa109564c5e7521a07f884494844276b667eb5742b910b6", func := "demesne/demesnelaw39.CalcInput", spec := "calcInput", unfollowed := true, recurses := true, named := ["demesne/word.words"], loops := true, apart := false, laid := [("demesne/word.words", laid_demesne_word_words)] }
def CalcInputSaid : Prop := calcInputRow.holds Tryd.pinned (OpenSpec.ofChange calcInputSpec)

/-- ITS FALSE NEIGHBOUR: 'it returns false'. Refute it at one input. -/
def calcInputWrong : ChangeSpec := { name := "calcInput", fn := fun _ => fun
  | [d1, d2, d3] => { results := [.lit (.bool false)], args := [d1, d2, d3] }
  | _ => none }
def CalcInputWrongFalsely : Prop := calcInputRow.holds Tryd.pinned (OpenSpec.ofChange calcInputWrong)

/-- 'demesnelaw49.ScriptRead': WHATEVER THE INPUT: true; the input reads as it did. -/
def scriptReadSpec : ChangeSpec := { name := "scriptRead", fn := fun _ => fun
  | [d] => { results := [.lit (.bool true)], args := [d] }
  | _ => none }
def scriptReadRow : OpenClaim := { program := "ytnnphkfiookbnaadoor", sum := "a085850c7bff16235aa109564c5e7521a07f884494844276b667eb5742b910b6", func := "demesne/demesnelaw49.ScriptRead", spec := "scriptRead", inPlace := ["internal/abi.NoEscape", "internal/bytealg.MakeNoZero", "internal/bytealg.CountString", "internal/bytealg.IndexByteString", "internal/bytealg.IndexString"], unfollowed := true, recurses := true, named := ["unicode/utf8.first", "unicode/utf8.acceptRanges", "internal/bytealg.MaxLen"], apart := false, laid := [("unicode/utf8.acceptRanges", laid_unicode_utf8_acceptRanges), ("unicode/utf8.first", laid_unicode_utf8_first)] }
def ScriptReadSaid : Prop := scriptReadRow.holds Tryd.pinned (OpenSpec.ofChange scriptReadSpec)

/-- ITS FALSE NEIGHBOUR: 'it returns false'. Refute it at one input. -/
def scriptReadWrong : ChangeSpec := { name := "scriptRead", fn := fun _ => fun
  | [d] => { results := [.lit (.bool false)], args := [d] }
  | _ => none }
def ScriptReadWrongFalsely : Prop := scriptReadRow.holds Tryd.pinned (OpenSpec.ofChange scriptReadWrong)

/-- 'demesnelaw49.ScriptText': WHATEVER THE INPUT: true; the input reads as it did. -/
def scriptTextSpec : ChangeSpec := { name := "scriptText", fn := fun _ => fun
  | [d] => { results := [.lit (.bool true)], args := [d] }
  | _ => none }
def scriptTextRow : OpenClaim := { program := "ytnnphkfiookbnaadoor", sum := "a085850c7bff16235aa109564c5e7521a07f884494844276b667eb5742b910b6", func := "demesne/demesnelaw49.ScriptText", spec := "scriptText", inPlace := ["internal/abi.NoEscape", "internal/bytealg.MakeNoZero", "internal/bytealg.CountString", "internal/bytealg.IndexByteString", "internal/bytealg.IndexString"], unfollowed := true, recurses := true, named := ["unicode/utf8.first", "unicode/utf8.acceptRanges", "internal/bytealg.MaxLen"], apart := false, laid := [("unicode/utf8.acceptRanges", laid_unicode_utf8_acceptRanges), ("unicode/utf8.first", laid_unicode_utf8_first)] }
def ScriptTextSaid : Prop := scriptTextRow.holds Tryd.pinned (OpenSpec.ofChange scriptTextSpec)

/-- ITS FALSE NEIGHBOUR: 'it returns false'. Refute it at one input. -/
def scriptTextWrong : ChangeSpec := { name := "scriptText", fn := fun _ => fun
  | [d] => { results := [.lit (.bool false)], args := [d] }
  | _ => none }
def ScriptTextWrongFalsely : Prop := scriptTextRow.holds Tryd.pinned (OpenSpec.ofChange scriptTextWrong)

/-- 'demesnelaw49.ScriptBack': WHATEVER THE INPUT: true; the input reads as it did. -/
def scriptBackSpec : ChangeSpec := { name := "scriptBack", fn := fun _ => fun
  | [d1, d2] => { results := [.lit (.bool true)], args := [d1, d2] }
  | _ => none }
def scriptBackRow : OpenClaim := { program := "ytnnphkfiookbnaadoor", sum := "a085850c7bff16235aa109564c5e7521a07f884494844276b667eb5742b910b6", func := "demesne/demesnelaw49.ScriptBack", spec := "scriptBack", inPlace := ["internal/abi.NoEscape", "internal/bytealg.MakeNoZero", "internal/bytealg.CountString", "internal/bytealg.IndexByteString", "internal/bytealg.IndexString"], unfollowed := true, recurses := true, named := ["unicode/utf8.first", "unicode/utf8.acceptRanges", "internal/bytealg.MaxLen"], apart := false, laid := [("unicode/utf8.acceptRanges", laid_unicode_utf8_acceptRanges), ("unicode/utf8.first", laid_unicode_utf8_first)] }
def ScriptBackSaid : Prop := scriptBackRow.holds Tryd.pinned (OpenSpec.ofChange scriptBackSpec)

/-- ITS FALSE NEIGHBOUR: 'it returns false'. Refute it at one input. -/
def scriptBackWrong : ChangeSpec := { name := "scriptBack", fn := fun _ => fun
  | [d1, d2] => { results := [.lit (.bool false)], args := [d1, d2] }
  | _ => none }
def ScriptBackWrongFalsely : Prop := scriptBackRow.holds Tryd.pinned (OpenSpec.ofChange scriptBackWrong)

/- THE SECOND FORM. 'bulk': how many values and letters a reading holds, each counted each time it is reached (what is shared counts as often as it is met; a slice's spare places count too). A statement '..UptoSaid' is the law's where the arguments, and the package variables that the reading takes, are together of bulk at most 1048576: NARROWER than '..Said'. Prove '..Said' where nothing that the law and all that it calls make is longer than what came in: it says more and counts as full. Else prove '..UptoSaid'. A law counts once. -/
mutual
def uptoBulk {H : Type} : DataW H → Nat
  | .lit (.string bytes) => bytes.length + 1
  | .lit _ => 1
  | .nil => 1
  | .ptr d => uptoBulk d + 1
  | .slice elems spare => uptoBulkAll elems + uptoBulkAll spare + 1
  | .agg parts => uptoBulkAll parts + 1
  | .iface _ d => uptoBulk d + 1
  | .map entries => uptoBulkEntries entries + 1
  | .held _ => 1
def uptoBulkAll {H : Type} : List (DataW H) → Nat
  | [] => 0
  | d :: r => uptoBulk d + uptoBulkAll r
def uptoBulkEntries {H : Type} : List (Lit × DataW H) → Nat
  | [] => 0
  | x :: r => uptoBulkEntry x + uptoBulkEntries r
def uptoBulkEntry {H : Type} : Lit × DataW H → Nat
  | (.string bytes, d) => bytes.length + uptoBulk d + 1
  | (_, d) => uptoBulk d + 1
 end
def uptoSmall : (H : Type) → List (DataW H) → Bool := fun _ ds => decide (uptoBulkAll ds ≤ 1048576)
def OpenSpec.upto (s : _root_.Go.ChangeSpec) : _root_.Go.OpenSpec := { _root_.Go.OpenSpec.ofChange s with cond := some uptoSmall }

/-- 'demesnelaw39.CalcOf', WHERE WHAT IT READS IS OF BULK AT MOST 1048576: true; the input reads as it did. -/
def calcOfUptoRow : OpenClaim := { program := "ytnnphkfiookbnaadoor", sum := "a085850c7bff16235aa109564c5e7521a07f884494844276b667eb5742b910b6", func := "demesne/demesnelaw39.CalcOf", spec := "calcOf", unfollowed := true, recurses := true, named := ["demesne/word.words"], loops := true, apart := false, laid := [("demesne/word.words", laid_demesne_word_words)], narrowed := true }
def CalcOfUptoSaid : Prop := calcOfUptoRow.holds Tryd.pinned (OpenSpec.upto calcOfSpec)

/-- 'demesnelaw39.CalcAll', WHERE WHAT IT READS IS OF BULK AT MOST 1048576: true; the input reads as it did. -/
def calcAllUptoRow : OpenClaim := { program := "ytnnphkfiookbnaadoor", sum := "a085850c7bff16235aa109564c5e7521a07f884494844276b667eb5742b910b6", func := "demesne/demesnelaw39.CalcAll", spec := "calcAll", unfollowed := true, recurses := true, named := ["demesne/word.words"], loops := true, apart := false, laid := [("demesne/word.words", laid_demesne_word_words)], narrowed := true }
def CalcAllUptoSaid : Prop := calcAllUptoRow.holds Tryd.pinned (OpenSpec.upto calcAllSpec)

/-- 'demesnelaw39.CalcInput', WHERE WHAT IT READS IS OF BULK AT MOST 1048576: true; the input reads as it did. -/
def calcInputUptoRow : OpenClaim := { program := "ytnnphkfiookbnaadoor", sum := "a085850c7bff16235aa109564c5e7521a07f884494844276b667eb5742b910b6", func := "demesne/demesnelaw39.CalcInput", spec := "calcInput", unfollowed := true, recurses := true, named := ["demesne/word.words"], loops := true, apart := false, laid := [("demesne/word.words", laid_demesne_word_words)], narrowed := true }
def CalcInputUptoSaid : Prop := calcInputUptoRow.holds Tryd.pinned (OpenSpec.upto calcInputSpec)

/-- 'demesnelaw49.ScriptRead', WHERE WHAT IT READS IS OF BULK AT MOST 1048576: true; the input reads as it did. -/
def scriptReadUptoRow : OpenClaim := { program := "ytnnphkfiookbnaadoor", sum := "a085850c7bff16235aa109564c5e7521a07f884494844276b667eb5742b910b6", func := "demesne/demesnelaw49.ScriptRead", spec := "scriptRead", inPlace := ["internal/abi.NoEscape", "internal/bytealg.MakeNoZero", "internal/bytealg.CountString", "internal/bytealg.IndexByteString", "internal/bytealg.IndexString"], unfollowed := true, recurses := true, named := ["unicode/utf8.first", "unicode/utf8.acceptRanges", "internal/bytealg.MaxLen"], apart := false, laid := [("unicode/utf8.acceptRanges", laid_unicode_utf8_acceptRanges), ("unicode/utf8.first", laid_unicode_utf8_first)], narrowed := true }
def ScriptReadUptoSaid : Prop := scriptReadUptoRow.holds Tryd.pinned (OpenSpec.upto scriptReadSpec)

/-- 'demesnelaw49.ScriptText', WHERE WHAT IT READS IS OF BULK AT MOST 1048576: true; the input reads as it did. -/
def scriptTextUptoRow : OpenClaim := { program := "ytnnphkfiookbnaadoor", sum := "a085850c7bff16235aa109564c5e7521a07f884494844276b667eb5742b910b6", func := "demesne/demesnelaw49.ScriptText", spec := "scriptText", inPlace := ["internal/abi.NoEscape", "internal/bytealg.MakeNoZero", "internal/bytealg.CountString", "internal/bytealg.IndexByteString", "internal/bytealg.IndexString"], unfollowed := true, recurses := true, named := ["unicode/utf8.first", "unicode/utf8.acceptRanges", "internal/bytealg.MaxLen"], apart := false, laid := [("unicode/utf8.acceptRanges", laid_unicode_utf8_acceptRanges), ("unicode/utf8.first", laid_unicode_utf8_first)], narrowed := true }
def ScriptTextUptoSaid : Prop := scriptTextUptoRow.holds Tryd.pinned (OpenSpec.upto scriptTextSpec)

/-- 'demesnelaw49.ScriptBack', WHERE WHAT IT READS IS OF BULK AT MOST 1048576: true; the input reads as it did. -/
def scriptBackUptoRow : OpenClaim := { program := "ytnnphkfiookbnaadoor", sum := "a085850c7bff16235aa109564c5e7521a07f884494844276b667eb5742b910b6", func := "demesne/demesnelaw49.ScriptBack", spec := "scriptBack", inPlace := ["internal/abi.NoEscape", "internal/bytealg.MakeNoZero", "internal/bytealg.CountString", "internal/bytealg.IndexByteString", "internal/bytealg.IndexString"], unfollowed := true, recurses := true, named := ["unicode/utf8.first", "unicode/utf8.acceptRanges", "internal/bytealg.MaxLen"], apart := false, laid := [("unicode/utf8.acceptRanges", laid_unicode_utf8_acceptRanges), ("unicode/utf8.first", laid_unicode_utf8_first)], narrowed := true }
def ScriptBackUptoSaid : Prop := scriptBackUptoRow.holds Tryd.pinned (OpenSpec.upto scriptBackSpec)

end Rows
end Go.Proofs.YtnnphkfiookbnaaDoor
