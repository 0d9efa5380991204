/-
  NARROWER THAN 'FOR EVERY INPUT', by the rows' own cells (each row's printed sentence says how): AboveChain: loops · FieldAll: loops · AboveBelow: loops · AboveOrder: loops · FieldKeeps: loops · HeapStart: loops · FieldFind: loops.
  DERIVED. THE GIVEN ROWS OF THIS SEAT. 11 by the template 'for every input the law returns true; each argument reads behind the call as it read before'; 0 by the template 'total and deterministic' (their statements: YtdffghiejjaomaaTotals.lean).
  GIVEN WITH THE SEED: the statements are not yours to turn. If you find one false, say at which input.
  Laid BY PROGRAM, IN A SANDBOX (cutbox-rows.mjs): the forced cells as the released guide's own fill.sh prints them over the translation 82fc390f1c3f9fd0… (all of the seat's roots in one cut). By AI agents, Wed Nov 11 2026. No macro, syntax, notation, axiom, sorry.
-/
import Derived.Test.YtdffghiejjaomaaChecked
import GoSem.Claim
import GoSem.ClaimJoined
import GoSem.ClaimMapViews
import Derived.JoinedTies
import Derived.KernelRfl
namespace Go.Proofs.Ytdffghiejjaomaa
/- THE CELL 'sum', in the pinned program and in every row, IS THE sha256 OF THE DUMP (.gsa) THAT YtdffghiejjaomaaProg.lean LOADS. Nothing in Lean hashes anything: it is a label: what it is worth is what the hold of that sum in a sandbox is worth. -/
noncomputable def Try.pinned : Pinned := { name := "ytdffghiejjaomaa", sum := "82fc390f1c3f9fd06d50b7f97b2872ba2a27d8bfeaf29cc59b0dd04bbf39c305", checked := Try.checked }
namespace Rows
def none {H : Type} : Left H := { results := [], args := [] }

/-- 'demesnelaw35.HeapTells': WHATEVER THE INPUT: true; the input reads as it did. -/
def heapTellsSpec : ChangeSpec := { name := "heapTells", fn := fun _ => fun
  | [d1, d2, d3] => { results := [.lit (.bool true)], args := [d1, d2, d3] }
  | _ => none }
def heapTellsRow : OpenClaim := { program := "ytdffghiejjaomaa", sum := "82fc390f1c3f9fd06d50b7f97b2872ba2a27d8bfeaf29cc59b0dd04bbf39c305", func := "demesne/demesnelaw35.HeapTells", spec := "heapTells", apart := false }
def HeapTellsSaid : Prop := heapTellsRow.holds Try.pinned (OpenSpec.ofChange heapTellsSpec)

/-- ITS FALSE NEIGHBOUR: 'it returns false'. Refute it at one input. -/
def heapTellsWrong : ChangeSpec := { name := "heapTells", fn := fun _ => fun
  | [d1, d2, d3] => { results := [.lit (.bool false)], args := [d1, d2, d3] }
  | _ => none }
def HeapTellsWrongFalsely : Prop := heapTellsRow.holds Try.pinned (OpenSpec.ofChange heapTellsWrong)

/-- 'demesnelaw04.OwnerPut': WHATEVER THE INPUT: true; the input reads as it did. -/
def ownerPutSpec : ChangeSpec := { name := "ownerPut", fn := fun _ => fun
  | [d1, d2, d3] => { results := [.lit (.bool true)], args := [d1, d2, d3] }
  | _ => none }
def ownerPutRow : OpenClaim := { program := "ytdffghiejjaomaa", sum := "82fc390f1c3f9fd06d50b7f97b2872ba2a27d8bfeaf29cc59b0dd04bbf39c305", func := "demesne/demesnelaw04.OwnerPut", spec := "ownerPut", apart := false }
def OwnerPutSaid : Prop := ownerPutRow.holds Try.pinned (OpenSpec.ofChange ownerPutSpec)

/-- ITS FALSE NEIGHBOUR: 'it returns false'. Refute it at one input. -/
def ownerPutWrong : ChangeSpec := { name := "ownerPut", fn := fun _ => fun
  | [d1, d2, d3] => { results := [.lit (.bool false)], args := [d1, d2, d3] }
  | _ => none }
def OwnerPutWrongFalsely : Prop := ownerPutRow.holds Try.pinned (OpenSpec.ofChange ownerPutWrong)

/-- 'demesnelaw14.AboveChain': WHATEVER THE INPUT: true; the input reads as it did. -/
def aboveChainSpec : ChangeSpec := { name := "aboveChain", fn := fun _ => fun
  | [d1, d2] => { results := [.lit (.bool true)], args := [d1, d2] }
  | _ => none }
def aboveChainRow : OpenClaim := { program := "ytdffghiejjaomaa", sum := "82fc390f1c3f9fd06d50b7f97b2872ba2a27d8bfeaf29cc59b0dd04bbf39c305", func := "demesne/demesnelaw14.AboveChain", spec := "aboveChain", unfollowed := true, recurses := true, loops := true, apart := false }
def AboveChainSaid : Prop := aboveChainRow.holds Try.pinned (OpenSpec.ofChange aboveChainSpec)

/-- ITS FALSE NEIGHBOUR: 'it returns false'. Refute it at one input. -/
def aboveChainWrong : ChangeSpec := { name := "aboveChain", fn := fun _ => fun
  | [d1, d2] => { results := [.lit (.bool false)], args := [d1, d2] }
  | _ => none }
def AboveChainWrongFalsely : Prop := aboveChainRow.holds Try.pinned (OpenSpec.ofChange aboveChainWrong)

/-- 'demesnelaw35.HeapPut': WHATEVER THE INPUT: true; the input reads as it did. -/
def heapPutSpec : ChangeSpec := { name := "heapPut", fn := fun _ => fun
  | [d1, d2, d3] => { results := [.lit (.bool true)], args := [d1, d2, d3] }
  | _ => none }
def heapPutRow : OpenClaim := { program := "ytdffghiejjaomaa", sum := "82fc390f1c3f9fd06d50b7f97b2872ba2a27d8bfeaf29cc59b0dd04bbf39c305", func := "demesne/demesnelaw35.HeapPut", spec := "heapPut", apart := false }
def HeapPutSaid : Prop := heapPutRow.holds Try.pinned (OpenSpec.ofChange heapPutSpec)

/-- ITS FALSE NEIGHBOUR: 'it returns false'. Refute it at one input. -/
def heapPutWrong : ChangeSpec := { name := "heapPut", fn := fun _ => fun
  | [d1, d2, d3] => { results := [.lit (.bool false)], args := [d1, d2, d3] }
  | _ => none }
def HeapPutWrongFalsely : Prop := heapPutRow.holds Try.pinned (OpenSpec.ofChange heapPutWrong)

/-- 'demesnelaw16.FieldAll': WHATEVER THE INPUT: true; the input reads as it did. -/
def fieldAllSpec : ChangeSpec := { name := "fieldAll", fn := fun _ => fun
  | [d1, d2] => { results := [.lit (.bool true)], args := [d1, d2] }
  | _ => none }
def fieldAllRow : OpenClaim := { program := "ytdffghiejjaomaa", sum := "82fc390f1c3f9fd06d50b7f97b2872ba2a27d8bfeaf29cc59b0dd04bbf39c305", func := "demesne/demesnelaw16.FieldAll", spec := "fieldAll", unfollowed := true, recurses := true, loops := true, apart := false }
def FieldAllSaid : Prop := fieldAllRow.holds Try.pinned (OpenSpec.ofChange fieldAllSpec)

/-- ITS FALSE NEIGHBOUR: 'it returns false'. Refute it at one input. -/
def fieldAllWrong : ChangeSpec := { name := "fieldAll", fn := fun _ => fun
  | [d1, d2] => { results := [.lit (.bool false)], args := [d1, d2] }
  | _ => none }
def FieldAllWrongFalsely : Prop := fieldAllRow.holds Try.pinned (OpenSpec.ofChange fieldAllWrong)

/-- 'demesnelaw14.AboveBelow': WHATEVER THE INPUT: true; the input reads as it did. -/
def aboveBelowSpec : ChangeSpec := { name := "aboveBelow", fn := fun _ => fun
  | [d1, d2, d3] => { results := [.lit (.bool true)], args := [d1, d2, d3] }
  | _ => none }
def aboveBelowRow : OpenClaim := { program := "ytdffghiejjaomaa", sum := "82fc390f1c3f9fd06d50b7f97b2872ba2a27d8bfeaf29cc59b0dd04bbf39c305", func := "demesne/demesnelaw14.AboveBelow", spec := "aboveBelow", unfollowed := true, recurses := true, loops := true, apart := false }
def AboveBelowSaid : Prop := aboveBelowRow.holds Try.pinned (OpenSpec.ofChange aboveBelowSpec)

/-- ITS FALSE NEIGHBOUR: 'it returns false'. Refute it at one input. -/
def aboveBelowWrong : ChangeSpec := { name := "aboveBelow", fn := fun _ => fun
  | [d1, d2, d3] => { results := [.lit (.bool false)], args := [d1, d2, d3] }
  | _ => none }
def AboveBelowWrongFalsely : Prop := aboveBelowRow.holds Try.pinned (OpenSpec.ofChange aboveBelowWrong)

/-- 'demesnelaw14.AboveOrder': WHATEVER THE INPUT: true; the input reads as it did. -/
def aboveOrderSpec : ChangeSpec := { name := "aboveOrder", fn := fun _ => fun
  | [d1, d2] => { results := [.lit (.bool true)], args := [d1, d2] }
  | _ => none }
def aboveOrderRow : OpenClaim := { program := "ytdffghiejjaomaa", sum := "82fc390f1c3f9fd06d50b7f97b2872ba2a27d8bfeaf29cc59b0dd04bbf39c305", func := "demesne/demesnelaw14.AboveOrder", spec := "aboveOrder", unfollowed := true, recurses := true, loops := true, apart := false }
def AboveOrderSaid : Prop := aboveOrderRow.holds Try.pinned (OpenSpec.ofChange aboveOrderSpec)

/-- ITS FALSE NEIGHBOUR: 'it returns false'. Refute it at one input. -/
def aboveOrderWrong : ChangeSpec := { name := "aboveOrder", fn := fun _ => fun
  | [d1, d2] => { results := [.lit (.bool false)], args := [d1, d2] }
  | _ => none }
def AboveOrderWrongFalsely : Prop := aboveOrderRow.holds Try.pinned (OpenSpec.ofChange aboveOrderWrong)

/-- 'demesnelaw16.FieldKeeps': WHATEVER THE INPUT: true; the input reads as it did. -/
def fieldKeepsSpec : ChangeSpec := { name := "fieldKeeps", fn := fun _ => fun
  | [d1, d2, d3] => { results := [.lit (.bool true)], args := [d1, d2, d3] }
  | _ => none }
def fieldKeepsRow : OpenClaim := { program := "ytdffghiejjaomaa", sum := "82fc390f1c3f9fd06d50b7f97b2872ba2a27d8bfeaf29cc59b0dd04bbf39c305", func := "demesne/demesnelaw16.FieldKeeps", spec := "fieldKeeps", unfollowed := true, recurses := true, loops := true, apart := false }
def FieldKeepsSaid : Prop := fieldKeepsRow.holds Try.pinned (OpenSpec.ofChange fieldKeepsSpec)

/-- ITS FALSE NEIGHBOUR: 'it returns false'. Refute it at one input. -/
def fieldKeepsWrong : ChangeSpec := { name := "fieldKeeps", fn := fun _ => fun
  | [d1, d2, d3] => { results := [.lit (.bool false)], args := [d1, d2, d3] }
  | _ => none }
def FieldKeepsWrongFalsely : Prop := fieldKeepsRow.holds Try.pinned (OpenSpec.ofChange fieldKeepsWrong)

/-- 'demesnelaw04.OwnerTwice': WHATEVER THE INPUT: true; the input reads as it did. -/
def ownerTwiceSpec : ChangeSpec := { name := "ownerTwice", fn := fun _ => fun
  | [d1, d2, d3] => { results := [.lit (.bool true)], args := [d1, d2, d3] }
  | _ => none }
def ownerTwiceRow : OpenClaim := { program := "ytdffghiejjaomaa", sum := "82fc390f1c3f9fd06d50b7f97b2872ba2a27d8bfeaf29cc59b0dd04bbf39c305", func := "demesne/demesnelaw04.OwnerTwice", spec := "ownerTwice", apart := false }
def OwnerTwiceSaid : Prop := ownerTwiceRow.holds Try.pinned (OpenSpec.ofChange ownerTwiceSpec)

/-- ITS FALSE NEIGHBOUR: 'it returns false'. Refute it at one input. -/
def ownerTwiceWrong : ChangeSpec := { name := "ownerTwice", fn := fun _ => fun
  | [d1, d2, d3] => { results := [.lit (.bool false)], args := [d1, d2, d3] }
  | _ => none }
def OwnerTwiceWrongFalsely : Prop := ownerTwiceRow.holds Try.pinned (OpenSpec.ofChange ownerTwiceWrong)

/-- 'demesnelaw35.HeapStart': WHATEVER THE INPUT: true; the input reads as it did. -/
def heapStartSpec : ChangeSpec := { name := "heapStart", fn := fun _ => fun
  | [d1, d2, d3] => { results := [.lit (.bool true)], args := [d1, d2, d3] }
  | _ => none }
def heapStartRow : OpenClaim := { program := "ytdffghiejjaomaa", sum := "82fc390f1c3f9fd06d50b7f97b2872ba2a27d8bfeaf29cc59b0dd04bbf39c305", func := "demesne/demesnelaw35.HeapStart", spec := "heapStart", unfollowed := true, recurses := true, loops := true, apart := false }
def HeapStartSaid : Prop := heapStartRow.holds Try.pinned (OpenSpec.ofChange heapStartSpec)

/-- ITS FALSE NEIGHBOUR: 'it returns false'. Refute it at one input. -/
def heapStartWrong : ChangeSpec := { name := "heapStart", fn := fun _ => fun
  | [d1, d2, d3] => { results := [.lit (.bool false)], args := [d1, d2, d3] }
  | _ => none }
def HeapStartWrongFalsely : Prop := heapStartRow.holds Try.pinned (OpenSpec.ofChange heapStartWrong)

/-- 'demesnelaw16.FieldFind': WHATEVER THE INPUT: true; the input reads as it did. -/
def fieldFindSpec : ChangeSpec := { name := "fieldFind", fn := fun _ => fun
  | [d1, d2, d3] => { results := [.lit (.bool true)], args := [d1, d2, d3] }
  | _ => none }
def fieldFindRow : OpenClaim := { program := "ytdffghiejjaomaa", sum := "82fc390f1c3f9fd06d50b7f97b2872ba2a27d8bfeaf29cc59b0dd04bbf39c305", func := "demesne/demesnelaw16.FieldFind", spec := "fieldFind", unfollowed := true, recurses := true, loops := true, apart := false }
def FieldFindSaid : Prop := fieldFindRow.holds Try.pinned (OpenSpec.ofChange fieldFindSpec)

/-- ITS FALSE NEIGHBOUR: 'it returns false'. Refute it at one input. -/
def fieldFindWrong : ChangeSpec := { name := "fieldFind", fn := fun _ => fun
  | [d1, d2, d3] => { results := [.lit (.bool false)], args := [d1, d2, d3] }
  | _ => none }
def FieldFindWrongFalsely : Prop := fieldFindRow.holds Try.pinned (OpenSpec.ofChange fieldFindWrong)

/- THE SECOND FORM. 'bulk': how many values and letters a reading holds, each counted each time it is reached (what is shared counts as often as it is met; a slice's spare places count too). A statement '..UptoSaid' is the law's where the arguments, and the package variables that the reading takes, are together of bulk at most 1048576: NARROWER than '..Said'. Prove '..Said' where nothing that the law and all that it calls make is longer than what came in: it says more and counts as full. Else prove '..UptoSaid'. A law counts once. -/
mutual
def uptoBulk {H : Type} : DataW H → Nat
  | .lit (.string bytes) => bytes.length + 1
  | .lit _ => 1
  | .nil => 1
  | .ptr d => uptoBulk d + 1
  | .slice elems spare => uptoBulkAll elems + uptoBulkAll spare + 1
  | .agg parts => uptoBulkAll parts + 1
  | .iface _ d => uptoBulk d + 1
  | .map entries => uptoBulkEntries entries + 1
  | .held _ => 1
def uptoBulkAll {H : Type} : List (DataW H) → Nat
  | [] => 0
  | d :: r => uptoBulk d + uptoBulkAll r
def uptoBulkEntries {H : Type} : List (Lit × DataW H) → Nat
  | [] => 0
  | x :: r => uptoBulkEntry x + uptoBulkEntries r
def uptoBulkEntry {H : Type} : Lit × DataW H → Nat
  | (.string bytes, d) => bytes.length + uptoBulk d + 1
  | (_, d) => uptoBulk d + 1
 end
def uptoSmall : (H : Type) → List (DataW H) → Bool := fun _ ds => decide (uptoBulkAll ds ≤ 1048576)
def OpenSpec.upto (s : _root_.Go.ChangeSpec) : _root_.Go.OpenSpec := { _root_.Go.OpenSpec.ofChange s with cond := some uptoSmall }

/-- 'demesnelaw35.HeapTells', WHERE WHAT IT READS IS OF BULK AT MOST 1048576: true; the input reads as it did. -/
def heapTellsUptoRow : OpenClaim := { program := "ytdffghiejjaomaa", sum := "82fc390f1c3f9fd06d50b7f97b2872ba2a27d8bfeaf29cc59b0dd04bbf39c305", func := "demesne/demesnelaw35.HeapTells", spec := "heapTells", apart := false, narrowed := true }
def HeapTellsUptoSaid : Prop := heapTellsUptoRow.holds Try.pinned (OpenSpec.upto heapTellsSpec)

/-- 'demesnelaw04.OwnerPut', WHERE WHAT IT READS IS OF BULK AT MOST 1048576: true; the input reads as it did. -/
def ownerPutUptoRow : OpenClaim := { program := "ytdffghiejjaomaa", sum := "82fc390f1c3f9fd06d50b7f97b2872ba2a27d8bfeaf29cc59b0dd04bbf39c305", func := "demesne/demesnelaw04.OwnerPut", spec := "ownerPut", apart := false, narrowed := true }
def OwnerPutUptoSaid : Prop := ownerPutUptoRow.holds Try.pinned (OpenSpec.upto ownerPutSpec)

/-- 'demesnelaw14.AboveChain', WHERE WHAT IT READS IS OF BULK AT MOST 1048576: true; the input reads as it did. -/
def aboveChainUptoRow : OpenClaim := { program := "ytdffghiejjaomaa", sum := "82fc390f1c3f9fd06d50b7f97b2872ba2a27d8bfeaf29cc59b0dd04bbf39c305", func := "demesne/demesnelaw14.AboveChain", spec := "aboveChain", unfollowed := true, recurses := true, loops := true, apart := false, narrowed := true }
def AboveChainUptoSaid : Prop := aboveChainUptoRow.holds Try.pinned (OpenSpec.upto aboveChainSpec)

/-- 'demesnelaw35.HeapPut', WHERE WHAT IT READS IS OF BULK AT MOST 1048576: true; the input reads as it did. -/
def heapPutUptoRow : OpenClaim := { program := "ytdffghiejjaomaa", sum := "82fc390f1c3f9fd06d50b7f97b2872ba2a27d8bfeaf29cc59b0dd04bbf39c305", func := "demesne/demesnelaw35.HeapPut", spec := "heapPut", apart := false, narrowed := true }
def HeapPutUptoSaid : Prop := heapPutUptoRow.holds Try.pinned (OpenSpec.upto heapPutSpec)

/-- 'demesnelaw16.FieldAll', WHERE WHAT IT READS IS OF BULK AT MOST 1048576: true; the input reads as it did. -/
def fieldAllUptoRow : OpenClaim := { program := "ytdffghiejjaomaa", sum := "82fc390f1c3f9fd06d50b7f97b2872ba2a27d8bfeaf29cc59b0dd04bbf39c305", func := "demesne/demesnelaw16.FieldAll", spec := "fieldAll", unfollowed := true, recurses := true, loops := true, apart := false, narrowed := true }
def FieldAllUptoSaid : Prop := fieldAllUptoRow.holds Try.pinned (OpenSpec.upto fieldAllSpec)

/-- 'demesnelaw14.AboveBelow', WHERE WHAT IT READS IS OF BULK AT MOST 1048576: true; the input reads as it did. -/
def aboveBelowUptoRow : OpenClaim := { program := "ytdffghiejjaomaa", sum := "82fc390f1c3f9fd06d50b7f97b2872ba2a27d8bfeaf29cc59b0dd04bbf39c305", func := "demesne/demesnelaw14.AboveBelow", spec := "aboveBelow", unfollowed := true, recurses := true, loops := true, apart := false, narrowed := true }
def AboveBelowUptoSaid : Prop := aboveBelowUptoRow.holds Try.pinned (OpenSpec.upto aboveBelowSpec)

/-- 'demesnelaw14.AboveOrder', WHERE WHAT IT READS IS OF BULK AT MOST 1048576: true; the input reads as it did. -/
def aboveOrderUptoRow : OpenClaim := { program := "ytdffghiejjaomaa", sum := "82fc390f1c3f9fd06d50b7f97b2872ba2a27d8bfeaf29cc59b0dd04bbf39c305", func := "demesne/demesnelaw14.AboveOrder", spec := "aboveOrder", unfollowed := true, recurses := true, loops := true, apart := false, narrowed := true }
def AboveOrderUptoSaid : Prop := aboveOrderUptoRow.holds Try.pinned (OpenSpec.upto aboveOrderSpec)

/-- 'demesnelaw16.FieldKeeps', WHERE WHAT IT READS IS OF BULK AT MOST 1048576: true; the input reads as it did. -/
def fieldKeepsUptoRow : OpenClaim := { program := "ytdffghiejjaomaa", sum := "82fc390f1c3f9fd06d50b7f97b2872ba2a27d8bfeaf29cc59b0dd04bbf39c305", func := "demesne/demesnelaw16.FieldKeeps", spec := "fieldKeeps", unfollowed := true, recurses := true, loops := true, apart := false, narrowed := true }
def FieldKeepsUptoSaid : Prop := fieldKeepsUptoRow.holds Try.pinned (OpenSpec.upto fieldKeepsSpec)

/-- 'demesnelaw04.OwnerTwice', WHERE WHAT IT READS IS OF BULK AT MOST 1048576: true; the input reads as it did. -/
def ownerTwiceUptoRow : OpenClaim := { program := "ytdffghiejjaomaa", sum := "82fc390f1c3f9fd06d50b7f97b2872ba2a27d8bfeaf29cc59b0dd04bbf39c305", func := "demesne/demesnelaw04.OwnerTwice", spec := "ownerTwice", apart := false, narrowed := true }
def OwnerTwiceUptoSaid : Prop := ownerTwiceUptoRow.holds Try.pinned (OpenSpec.upto ownerTwiceSpec)

/-- 'demesnelaw35.HeapStart', WHERE WHAT IT READS IS OF BULK AT MOST 1048576: true; the input reads as it did. -/
def heapStartUptoRow : OpenClaim := { program := "ytdffghiejjaomaa", sum := "82fc390f1c3f9fd06d50b7f97b2872ba2a27d8bfeaf29cc59b0dd04bbf39c305", func := "demesne/demesnelaw35.HeapStart", spec := "heapStart", unfollowed := true, recurses := true, loops := true, apart := false, narrowed := true }
def HeapStartUptoSaid : Prop := heapStartUptoRow.holds Try.pinned (OpenSpec.upto heapStartSpec)

/-- 'demesnelaw16.FieldFind', WHERE WHAT IT READS IS OF BULK AT MOST 1048576: true; the input reads as it did. -/
def fieldFindUptoRow : OpenClaim := { program := "ytdffghiejjaomaa", sum := "82fc390f1c3f9fd06d50b7f97b2872ba2a27d8bfeaf29cc59b0dd04bbf39c305", func := "demesne/demesnelaw16.FieldFind", spec := "fieldFind", unfollowed := true, recurses := true, loops := true, apart := false, narrowed := true }
def FieldFindUptoSaid : Prop := fieldFindUptoRow.holds Try.pinned (OpenSpec.upto fieldFindSpec)

end Rows
end Go.Proofs.Ytdffghiejjaomaa
