/-
  NARROWER THAN 'FOR EVERY INPUT', by the rows' own cells (each row's printed sentence says how): PureCheck: loops · PureRuns: loops · PureAll: loops.
  DERIVED. THE GIVEN ROWS OF THIS SEAT. 3 by the template 'for every input the law returns true; each argument reads behind the call as it read before'; 0 by the template 'total and deterministic' (their statements: YtiefoagopfeibaaGreatTotals.lean).
  GIVEN WITH THE SEED: the statements are not yours to turn. If you find one false, say at which input.
  Laid BY PROGRAM, IN A SANDBOX (cutbox-rows.mjs): the forced cells as the released guide's own fill.sh prints them over the translation 5740f3f92c514482… (all of the seat's roots in one cut). By AI agents, Wed Nov 11 2026. No macro, syntax, notation, axiom, sorry.
-/
import Derived.Test.YtiefoagopfeibaaGreatChecked
import GoSem.Claim
import GoSem.ClaimJoined
import GoSem.ClaimMapViews
import Derived.JoinedTies
import Derived.KernelRfl
namespace Go.Proofs.YtiefoagopfeibaaGreat
/- THE CELL 'sum', in the pinned program and in every row, IS THE sha256 OF THE DUMP (.gsa) THAT YtiefoagopfeibaaGreatProg.lean LOADS. Nothing in Lean hashes anything: it is a label: what it is worth is what the hold of that sum in a sandbox is worth. -/
noncomputable def Tryz.pinned : Pinned := { name := "ytiefoagopfeibaagreat", sum := "5740f3f92c514482afed0bf6ce3962c90a7e285154966b9a31e5f9df32de2c00", checked := Tryz.checked }
namespace Rows
def none {H : Type} : Left H := { results := [], args := [] }

/-- 'demesnelaw22.PureCheck': WHATEVER THE INPUT: true; the input reads as it did. -/
def pureCheckSpec : ChangeSpec := { name := "pureCheck", fn := fun _ => fun
  | [d] => { results := [.lit (.bool true)], args := [d] }
  | _ => none }
def pureCheckRow : OpenClaim := { program := "ytiefoagopfeibaagreat", sum := "5740f3f92c514482afed0bf6ce3962c90a7e285154966b9a31e5f9df32de2c00", func := "demesne/demesnelaw22.PureCheck", spec := "pureCheck", unfollowed := true, recurses := true, loops := true, plainKeys := false, apart := false }
def PureCheckSaid : Prop := pureCheckRow.holds Tryz.pinned (OpenSpec.ofChange pureCheckSpec)

/-- ITS FALSE NEIGHBOUR: 'it returns false'. Refute it at one input. -/
def pureCheckWrong : ChangeSpec := { name := "pureCheck", fn := fun _ => fun
  | [d] => { results := [.lit (.bool false)], args := [d] }
  | _ => none }
def PureCheckWrongFalsely : Prop := pureCheckRow.holds Tryz.pinned (OpenSpec.ofChange pureCheckWrong)

/-- 'demesnelaw22.PureRuns': WHATEVER THE INPUT: true; the input reads as it did. -/
def pureRunsSpec : ChangeSpec := { name := "pureRuns", fn := fun _ => fun
  | [d1, d2, d3] => { results := [.lit (.bool true)], args := [d1, d2, d3] }
  | _ => none }
def pureRunsRow : OpenClaim := { program := "ytiefoagopfeibaagreat", sum := "5740f3f92c514482afed0bf6ce3962c90a7e285154966b9a31e5f9df32de2c00", func := "demesne/demesnelaw22.PureRuns", spec := "pureRuns", unfollowed := true, recurses := true, loops := true, plainKeys := false, apart := false }
def PureRunsSaid : Prop := pureRunsRow.holds Tryz.pinned (OpenSpec.ofChange pureRunsSpec)

/-- ITS FALSE NEIGHBOUR: 'it returns false'. Refute it at one input. -/
def pureRunsWrong : ChangeSpec := { name := "pureRuns", fn := fun _ => fun
  | [d1, d2, d3] => { results := [.lit (.bool false)], args := [d1, d2, d3] }
  | _ => none }
def PureRunsWrongFalsely : Prop := pureRunsRow.holds Tryz.pinned (OpenSpec.ofChange pureRunsWrong)

/-- 'demesnelaw22.PureAll': WHATEVER THE INPUT: true; the input reads as it did. -/
def pureAllSpec : ChangeSpec := { name := "pureAll", fn := fun _ => fun
  | [d1, d2, d3] => { results := [.lit (.bool true)], args := [d1, d2, d3] }
  | _ => none }
def pureAllRow : OpenClaim := { program := "ytiefoagopfeibaagreat", sum := "5740f3f92c514482afed0bf6ce3962c90a7e285154966b9a31e5f9df32de2c00", func := "demesne/demesnelaw22.PureAll", spec := "pureAll", unfollowed := true, recurses := true, loops := true, plainKeys := false, apart := false }
def PureAllSaid : Prop := pureAllRow.holds Tryz.pinned (OpenSpec.ofChange pureAllSpec)

/-- ITS FALSE NEIGHBOUR: 'it returns false'. Refute it at one input. -/
def pureAllWrong : ChangeSpec := { name := "pureAll", fn := fun _ => fun
  | [d1, d2, d3] => { results := [.lit (.bool false)], args := [d1, d2, d3] }
  | _ => none }
def PureAllWrongFalsely : Prop := pureAllRow.holds Tryz.pinned (OpenSpec.ofChange pureAllWrong)

/- THE SECOND FORM. 'bulk': how many values and letters a reading holds, each counted each time it is reached (what is shared counts as often as it is met; a slice's spare places count too). A statement '..UptoSaid' is the law's where the arguments, and the package variables that the reading takes, are together of bulk at most 1048576: NARROWER than '..Said'. Prove '..Said' where nothing that the law and all that it calls make is longer than what came in: it says more and counts as full. Else prove '..UptoSaid'. A law counts once. -/
mutual
def uptoBulk {H : Type} : DataW H → Nat
  | .lit (.string bytes) => bytes.length + 1
  | .lit _ => 1
  | .nil => 1
  | .ptr d => uptoBulk d + 1
  | .slice elems spare => uptoBulkAll elems + uptoBulkAll spare + 1
  | .agg parts => uptoBulkAll parts + 1
  | .iface _ d => uptoBulk d + 1
  | .map entries => uptoBulkEntries entries + 1
  | .held _ => 1
def uptoBulkAll {H : Type} : List (DataW H) → Nat
  | [] => 0
  | d :: r => uptoBulk d + uptoBulkAll r
def uptoBulkEntries {H : Type} : List (Lit × DataW H) → Nat
  | [] => 0
  | x :: r => uptoBulkEntry x + uptoBulkEntries r
def uptoBulkEntry {H : Type} : Lit × DataW H → Nat
  | (.string bytes, d) => bytes.length + uptoBulk d + 1
  | (_, d) => uptoBulk d + 1
 end
def uptoSmall : (H : Type) → List (DataW H) → Bool := fun _ ds => decide (uptoBulkAll ds ≤ 1048576)
def OpenSpec.upto (s : _root_.Go.ChangeSpec) : _root_.Go.OpenSpec := { _root_.Go.OpenSpec.ofChange s with cond := some uptoSmall }

/-- 'demesnelaw22.PureCheck', WHERE WHAT IT READS IS OF BULK AT MOST 1048576: true; the input reads as it did. -/
def pureCheckUptoRow : OpenClaim := { program := "ytiefoagopfeibaagreat", sum := "5740f3f92c514482afed0bf6ce3962c90a7e285154966b9a31e5f9df32de2c00", func := "demesne/demesnelaw22.PureCheck", spec := "pureCheck", unfollowed := true, recurses := true, loops := true, plainKeys := false, apart := false, narrowed := true }
def PureCheckUptoSaid : Prop := pureCheckUptoRow.holds Tryz.pinned (OpenSpec.upto pureCheckSpec)

/-- 'demesnelaw22.PureRuns', WHERE WHAT IT READS IS OF BULK AT MOST 1048576: true; the input reads as it did. -/
def pureRunsUptoRow : OpenClaim := { program := "ytiefoagopfeibaagreat", sum := "5740f3f92c514482afed0bf6ce3962c90a7e285154966b9a31e5f9df32de2c00", func := "demesne/demesnelaw22.PureRuns", spec := "pureRuns", unfollowed := true, recurses := true, loops := true, plainKeys := false, apart := false, narrowed := true }
def PureRunsUptoSaid : Prop := pureRunsUptoRow.holds Tryz.pinned (OpenSpec.upto pureRunsSpec)

/-- 'demesnelaw22.PureAll', WHERE WHAT IT READS IS OF BULK AT MOST 1048576: true; the input reads as it did. -/
def pureAllUptoRow : OpenClaim := { program := "ytiefoagopfeibaagreat", sum := "5740f3f92c514482afed0bf6ce3962c90a7e285154966b9a31e5f9df32de2c00", func := "demesne/demesnelaw22.PureAll", spec := "pureAll", unfollowed := true, recurses := true, loops := true, plainKeys := false, apart := false, narrowed := true }
def PureAllUptoSaid : Prop := pureAllUptoRow.holds Tryz.pinned (OpenSpec.upto pureAllSpec)

end Rows
end Go.Proofs.YtiefoagopfeibaaGreat
