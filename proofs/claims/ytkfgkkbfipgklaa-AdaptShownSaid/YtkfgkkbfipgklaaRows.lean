/-
  NARROWER THAN 'FOR EVERY INPUT', by the rows' own cells (each row's printed sentence says how): UnderOrder: loops · AdaptThis: loops · AdaptShown: loops · UnderIs: loops · UnderSame: loops.
  DERIVED. THE GIVEN ROWS OF THIS SEAT. 5 by the template 'for every input the law returns true; each argument reads behind the call as it read before'; 0 by the template 'total and deterministic' (their statements: YtkfgkkbfipgklaaTotals.lean).
  GIVEN WITH THE SEED: the statements are not yours to turn. If you find one false, say at which input.
  Laid BY PROGRAM, IN A SANDBOX (cutbox-rows.mjs): the forced cells as the released guide's own fill.sh prints them over the translation c7db171c1c9ec8c4… (all of the seat's roots in one cut). By AI agents, Wed Nov 11 2026. No macro, syntax, notation, axiom, sorry.
-/
import Derived.Test.YtkfgkkbfipgklaaChecked
import GoSem.Claim
import GoSem.ClaimJoined
import GoSem.ClaimMapViews
import Derived.JoinedTies
import Derived.KernelRfl
namespace Go.Proofs.Ytkfgkkbfipgklaa
/- THE CELL 'sum', in the pinned program and in every row, IS THE sha256 OF THE DUMP (.gsa) THAT YtkfgkkbfipgklaaProg.lean LOADS. Nothing in Lean hashes anything: it is a label: what it is worth is what the hold of that sum in a sandbox is worth. -/
noncomputable def Try.pinned : Pinned := { name := "ytkfgkkbfipgklaa", sum := "c7db171c1c9ec8c4b1cfd6053d1bdf551623d3efb0534411e205ab663fab9b95", checked := Try.checked }
namespace Rows
def none {H : Type} : Left H := { results := [], args := [] }

/-- 'demesnelaw27.UnderOrder': WHATEVER THE INPUT: true; the input reads as it did. -/
def underOrderSpec : ChangeSpec := { name := "underOrder", fn := fun _ => fun
  | [d1, d2] => { results := [.lit (.bool true)], args := [d1, d2] }
  | _ => none }
def underOrderRow : OpenClaim := { program := "ytkfgkkbfipgklaa", sum := "c7db171c1c9ec8c4b1cfd6053d1bdf551623d3efb0534411e205ab663fab9b95", func := "demesne/demesnelaw27.UnderOrder", spec := "underOrder", unfollowed := true, recurses := true, loops := true, apart := false }
def UnderOrderSaid : Prop := underOrderRow.holds Try.pinned (OpenSpec.ofChange underOrderSpec)

/-- ITS FALSE NEIGHBOUR: 'it returns false'. Refute it at one input. -/
def underOrderWrong : ChangeSpec := { name := "underOrder", fn := fun _ => fun
  | [d1, d2] => { results := [.lit (.bool false)], args := [d1, d2] }
  | _ => none }
def UnderOrderWrongFalsely : Prop := underOrderRow.holds Try.pinned (OpenSpec.ofChange underOrderWrong)

/-- 'demesnelaw26.AdaptThis': WHATEVER THE INPUT: true; the input reads as it did. -/
def adaptThisSpec : ChangeSpec := { name := "adaptThis", fn := fun _ => fun
  | [d1, d2, d3] => { results := [.lit (.bool true)], args := [d1, d2, d3] }
  | _ => none }
def adaptThisRow : OpenClaim := { program := "ytkfgkkbfipgklaa", sum := "c7db171c1c9ec8c4b1cfd6053d1bdf551623d3efb0534411e205ab663fab9b95", func := "demesne/demesnelaw26.AdaptThis", spec := "adaptThis", unfollowed := true, recurses := true, loops := true, apart := false }
def AdaptThisSaid : Prop := adaptThisRow.holds Try.pinned (OpenSpec.ofChange adaptThisSpec)

/-- ITS FALSE NEIGHBOUR: 'it returns false'. Refute it at one input. -/
def adaptThisWrong : ChangeSpec := { name := "adaptThis", fn := fun _ => fun
  | [d1, d2, d3] => { results := [.lit (.bool false)], args := [d1, d2, d3] }
  | _ => none }
def AdaptThisWrongFalsely : Prop := adaptThisRow.holds Try.pinned (OpenSpec.ofChange adaptThisWrong)

/-- 'demesnelaw26.AdaptShown': WHATEVER THE INPUT: true; the input reads as it did. -/
def adaptShownSpec : ChangeSpec := { name := "adaptShown", fn := fun _ => fun
  | [d1, d2, d3] => { results := [.lit (.bool true)], args := [d1, d2, d3] }
  | _ => none }
def adaptShownRow : OpenClaim := { program := "ytkfgkkbfipgklaa", sum := "c7db171c1c9ec8c4b1cfd6053d1bdf551623d3efb0534411e205ab663fab9b95", func := "demesne/demesnelaw26.AdaptShown", spec := "adaptShown", unfollowed := true, recurses := true, loops := true, apart := false }
def AdaptShownSaid : Prop := adaptShownRow.holds Try.pinned (OpenSpec.ofChange adaptShownSpec)

/-- ITS FALSE NEIGHBOUR: 'it returns false'. Refute it at one input. -/
def adaptShownWrong : ChangeSpec := { name := "adaptShown", fn := fun _ => fun
  | [d1, d2, d3] => { results := [.lit (.bool false)], args := [d1, d2, d3] }
  | _ => none }
def AdaptShownWrongFalsely : Prop := adaptShownRow.holds Try.pinned (OpenSpec.ofChange adaptShownWrong)

/-- 'demesnelaw27.UnderIs': WHATEVER THE INPUT: true; the input reads as it did. -/
def underIsSpec : ChangeSpec := { name := "underIs", fn := fun _ => fun
  | [d1, d2, d3] => { results := [.lit (.bool true)], args := [d1, d2, d3] }
  | _ => none }
def underIsRow : OpenClaim := { program := "ytkfgkkbfipgklaa", sum := "c7db171c1c9ec8c4b1cfd6053d1bdf551623d3efb0534411e205ab663fab9b95", func := "demesne/demesnelaw27.UnderIs", spec := "underIs", unfollowed := true, recurses := true, loops := true, apart := false }
def UnderIsSaid : Prop := underIsRow.holds Try.pinned (OpenSpec.ofChange underIsSpec)

/-- ITS FALSE NEIGHBOUR: 'it returns false'. Refute it at one input. -/
def underIsWrong : ChangeSpec := { name := "underIs", fn := fun _ => fun
  | [d1, d2, d3] => { results := [.lit (.bool false)], args := [d1, d2, d3] }
  | _ => none }
def UnderIsWrongFalsely : Prop := underIsRow.holds Try.pinned (OpenSpec.ofChange underIsWrong)

/-- 'demesnelaw27.UnderSame': WHATEVER THE INPUT: true; the input reads as it did. -/
def underSameSpec : ChangeSpec := { name := "underSame", fn := fun _ => fun
  | [d1, d2, d3] => { results := [.lit (.bool true)], args := [d1, d2, d3] }
  | _ => none }
def underSameRow : OpenClaim := { program := "ytkfgkkbfipgklaa", sum := "c7db171c1c9ec8c4b1cfd6053d1bdf551623d3efb0534411e205ab663fab9b95", func := "demesne/demesnelaw27.UnderSame", spec := "underSame", unfollowed := true, recurses := true, loops := true, apart := false }
def UnderSameSaid : Prop := underSameRow.holds Try.pinned (OpenSpec.ofChange underSameSpec)

/-- ITS FALSE NEIGHBOUR: 'it returns false'. Refute it at one input. -/
def underSameWrong : ChangeSpec := { name := "underSame", fn := fun _ => fun
  | [d1, d2, d3] => { results := [.lit (.bool false)], args := [d1, d2, d3] }
  | _ => none }
def UnderSameWrongFalsely : Prop := underSameRow.holds Try.pinned (OpenSpec.ofChange underSameWrong)

/- THE SECOND FORM. 'bulk': how many values and letters a reading holds, each counted each time it is reached (what is shared counts as often as it is met; a slice's spare places count too). A statement '..UptoSaid' is the law's where the arguments, and the package variables that the reading takes, are together of bulk at most 1048576: NARROWER than '..Said'. Prove '..Said' where nothing that the law and all that it calls make is longer than what came in: it says more and counts as full. Else prove '..UptoSaid'. A law counts once. -/
mutual
def uptoBulk {H : Type} : DataW H → Nat
  | .lit (.string bytes) => bytes.length + 1
  | .lit _ => 1
  | .nil => 1
  | .ptr d => uptoBulk d + 1
  | .slice elems spare => uptoBulkAll elems + uptoBulkAll spare + 1
  | .agg parts => uptoBulkAll parts + 1
  | .iface _ d => uptoBulk d + 1
  | .map entries => uptoBulkEntries entries + 1
  | .held _ => 1
def uptoBulkAll {H : Type} : List (DataW H) → Nat
  | [] => 0
  | d :: r => uptoBulk d + uptoBulkAll r
def uptoBulkEntries {H : Type} : List (Lit × DataW H) → Nat
  | [] => 0
  | x :: r => uptoBulkEntry x + uptoBulkEntries r
def uptoBulkEntry {H : Type} : Lit × DataW H → Nat
  | (.string bytes, d) => bytes.length + uptoBulk d + 1
  | (_, d) => uptoBulk d + 1
 end
def uptoSmall : (H : Type) → List (DataW H) → Bool := fun _ ds => decide (uptoBulkAll ds ≤ 1048576)
def OpenSpec.upto (s : _root_.Go.ChangeSpec) : _root_.Go.OpenSpec := { _root_.Go.OpenSpec.ofChange s with cond := some uptoSmall }

/-- 'demesnelaw27.UnderOrder', WHERE WHAT IT READS IS OF BULK AT MOST 1048576: true; the input reads as it did. -/
def underOrderUptoRow : OpenClaim := { program := "ytkfgkkbfipgklaa", sum := "c7db171c1c9ec8c4b1cfd6053d1bdf551623d3efb0534411e205ab663fab9b95", func := "demesne/demesnelaw27.UnderOrder", spec := "underOrder", unfollowed := true, recurses := true, loops := true, apart := false, narrowed := true }
def UnderOrderUptoSaid : Prop := underOrderUptoRow.holds Try.pinned (OpenSpec.upto underOrderSpec)

/-- 'demesnelaw26.AdaptThis', WHERE WHAT IT READS IS OF BULK AT MOST 1048576: true; the input reads as it did. -/
def adaptThisUptoRow : OpenClaim := { program := "ytkfgkkbfipgklaa", sum := "c7db171c1c9ec8c4b1cfd6053d1bdf551623d3efb0534411e205ab663fab9b95", func := "demesne/demesnelaw26.AdaptThis", spec := "adaptThis", unfollowed := true, recurses := true, loops := true, apart := false, narrowed := true }
def AdaptThisUptoSaid : Prop := adaptThisUptoRow.holds Try.pinned (OpenSpec.upto adaptThisSpec)

/-- 'demesnelaw26.AdaptShown', WHERE WHAT IT READS IS OF BULK AT MOST 1048576: true; the input reads as it did. -/
def adaptShownUptoRow : OpenClaim := { program := "ytkfgkkbfipgklaa", sum := "c7db171c1c9ec8c4b1cfd6053d1bdf551623d3efb0534411e205ab663fab9b95", func := "demesne/demesnelaw26.AdaptShown", spec := "adaptShown", unfollowed := true, recurses := true, loops := true, apart := false, narrowed := true }
def AdaptShownUptoSaid : Prop := adaptShownUptoRow.holds Try.pinned (OpenSpec.upto adaptShownSpec)

/-- 'demesnelaw27.UnderIs', WHERE WHAT IT READS IS OF BULK AT MOST 1048576: true; the input reads as it did. -/
def underIsUptoRow : OpenClaim := { program := "ytkfgkkbfipgklaa", sum := "c7db171c1c9ec8c4b1cfd6053d1bdf551623d3efb0534411e205ab663fab9b95", func := "demesne/demesnelaw27.UnderIs", spec := "underIs", unfollowed := true, recurses := true, loops := true, apart := false, narrowed := true }
def UnderIsUptoSaid : Prop := underIsUptoRow.holds Try.pinned (OpenSpec.upto underIsSpec)

/-- 'demesnelaw27.UnderSame', WHERE WHAT IT READS IS OF BULK AT MOST 1048576: true; the input reads as it did. -/
def underSameUptoRow : OpenClaim := { program := "ytkfgkkbfipgklaa", sum := "c7db171c1c9ec8c4b1cfd6053d1bdf551623d3efb0534411e205ab663fab9b95", func := "demesne/demesnelaw27.UnderSame", spec := "underSame", unfollowed := true, recurses := true, loops := true, apart := false, narrowed := true }
def UnderSameUptoSaid : Prop := underSameUptoRow.holds Try.pinned (OpenSpec.upto underSameSpec)

end Rows
end Go.Proofs.Ytkfgkkbfipgklaa
