/-
  NARROWER THAN 'FOR EVERY INPUT', by the rows' own cells (each row's printed sentence says how): FlowStmt: loops · DotTree: loops · DotDeep: loops · FlowWays: loops.
  DERIVED. THE GIVEN ROWS OF THIS SEAT. 4 by the template 'for every input the law returns true; each argument reads behind the call as it read before'; 0 by the template 'total and deterministic' (their statements: YthhdlpggmmfaiaaGreatTotals.lean).
  GIVEN WITH THE SEED: the statements are not yours to turn. If you find one false, say at which input.
  Laid BY PROGRAM, IN A SANDBOX (cutbox-rows.mjs): the forced cells as the released guide's own fill.sh prints them over the translation 2ef79ae55370ab2a… (all of the seat's roots in one cut). By AI agents, Wed Nov 11 2026. No macro, syntax, notation, axiom, sorry.
-/
import Derived.Test.YthhdlpggmmfaiaaGreatChecked
import GoSem.Claim
import GoSem.ClaimJoined
import GoSem.ClaimMapViews
import Derived.JoinedTies
import Derived.KernelRfl
namespace Go.Proofs.YthhdlpggmmfaiaaGreat
/- THE CELL 'sum', in the pinned program and in every row, IS THE sha256 OF THE DUMP (.gsa) THAT YthhdlpggmmfaiaaGreatProg.lean LOADS. Nothing in Lean hashes anything: it is a label: what it is worth is what the hold of that sum in a sandbox is worth. -/
noncomputable def Tryz.pinned : Pinned := { name := "ythhdlpggmmfaiaagreat", sum := "2ef79ae55370ab2aa36eba69849324ca2a0824c54a1e703b3b3aaeb8a6455003", checked := Tryz.checked }
namespace Rows
def none {H : Type} : Left H := { results := [], args := [] }

/-- 'demesnelaw23.FlowStmt': WHATEVER THE INPUT: true; the input reads as it did. -/
def flowStmtSpec : ChangeSpec := { name := "flowStmt", fn := fun _ => fun
  | [d1, d2] => { results := [.lit (.bool true)], args := [d1, d2] }
  | _ => none }
def flowStmtRow : OpenClaim := { program := "ythhdlpggmmfaiaagreat", sum := "2ef79ae55370ab2aa36eba69849324ca2a0824c54a1e703b3b3aaeb8a6455003", func := "demesne/demesnelaw23.FlowStmt", spec := "flowStmt", unfollowed := true, recurses := true, loops := true, apart := false }
def FlowStmtSaid : Prop := flowStmtRow.holds Tryz.pinned (OpenSpec.ofChange flowStmtSpec)

/-- ITS FALSE NEIGHBOUR: 'it returns false'. Refute it at one input. -/
def flowStmtWrong : ChangeSpec := { name := "flowStmt", fn := fun _ => fun
  | [d1, d2] => { results := [.lit (.bool false)], args := [d1, d2] }
  | _ => none }
def FlowStmtWrongFalsely : Prop := flowStmtRow.holds Tryz.pinned (OpenSpec.ofChange flowStmtWrong)

/-- 'demesnelaw48.DotTree': WHATEVER THE INPUT: true; the input reads as it did. -/
def dotTreeSpec : ChangeSpec := { name := "dotTree", fn := fun _ => fun
  | [d1, d2, d3] => { results := [.lit (.bool true)], args := [d1, d2, d3] }
  | _ => none }
def dotTreeRow : OpenClaim := { program := "ythhdlpggmmfaiaagreat", sum := "2ef79ae55370ab2aa36eba69849324ca2a0824c54a1e703b3b3aaeb8a6455003", func := "demesne/demesnelaw48.DotTree", spec := "dotTree", inPlace := ["internal/abi.NoEscape", "internal/bytealg.MakeNoZero"], unfollowed := true, recurses := true, loops := true, apart := false }
def DotTreeSaid : Prop := dotTreeRow.holds Tryz.pinned (OpenSpec.ofChange dotTreeSpec)

/-- ITS FALSE NEIGHBOUR: 'it returns false'. Refute it at one input. -/
def dotTreeWrong : ChangeSpec := { name := "dotTree", fn := fun _ => fun
  | [d1, d2, d3] => { results := [.lit (.bool false)], args := [d1, d2, d3] }
  | _ => none }
def DotTreeWrongFalsely : Prop := dotTreeRow.holds Tryz.pinned (OpenSpec.ofChange dotTreeWrong)

/-- 'demesnelaw48.DotDeep': WHATEVER THE INPUT: true; the input reads as it did. -/
def dotDeepSpec : ChangeSpec := { name := "dotDeep", fn := fun _ => fun
  | [d1, d2, d3] => { results := [.lit (.bool true)], args := [d1, d2, d3] }
  | _ => none }
def dotDeepRow : OpenClaim := { program := "ythhdlpggmmfaiaagreat", sum := "2ef79ae55370ab2aa36eba69849324ca2a0824c54a1e703b3b3aaeb8a6455003", func := "demesne/demesnelaw48.DotDeep", spec := "dotDeep", inPlace := ["internal/abi.NoEscape", "internal/bytealg.MakeNoZero"], unfollowed := true, recurses := true, loops := true, apart := false }
def DotDeepSaid : Prop := dotDeepRow.holds Tryz.pinned (OpenSpec.ofChange dotDeepSpec)

/-- ITS FALSE NEIGHBOUR: 'it returns false'. Refute it at one input. -/
def dotDeepWrong : ChangeSpec := { name := "dotDeep", fn := fun _ => fun
  | [d1, d2, d3] => { results := [.lit (.bool false)], args := [d1, d2, d3] }
  | _ => none }
def DotDeepWrongFalsely : Prop := dotDeepRow.holds Tryz.pinned (OpenSpec.ofChange dotDeepWrong)

/-- 'demesnelaw23.FlowWays': WHATEVER THE INPUT: true; the input reads as it did. -/
def flowWaysSpec : ChangeSpec := { name := "flowWays", fn := fun _ => fun
  | [d1, d2] => { results := [.lit (.bool true)], args := [d1, d2] }
  | _ => none }
def flowWaysRow : OpenClaim := { program := "ythhdlpggmmfaiaagreat", sum := "2ef79ae55370ab2aa36eba69849324ca2a0824c54a1e703b3b3aaeb8a6455003", func := "demesne/demesnelaw23.FlowWays", spec := "flowWays", unfollowed := true, recurses := true, loops := true, apart := false }
def FlowWaysSaid : Prop := flowWaysRow.holds Tryz.pinned (OpenSpec.ofChange flowWaysSpec)

/-- ITS FALSE NEIGHBOUR: 'it returns false'. Refute it at one input. -/
def flowWaysWrong : ChangeSpec := { name := "flowWays", fn := fun _ => fun
  | [d1, d2] => { results := [.lit (.bool false)], args := [d1, d2] }
  | _ => none }
def FlowWaysWrongFalsely : Prop := flowWaysRow.holds Tryz.pinned (OpenSpec.ofChange flowWaysWrong)

/- THE SECOND FORM. 'bulk': how many values and letters a reading holds, each counted each time it is reached (what is shared counts as often as it is met; a slice's spare places count too). A statement '..UptoSaid' is the law's where the arguments, and the package variables that the reading takes, are together of bulk at most 1048576: NARROWER than '..Said'. Prove '..Said' where nothing that the law and all that it calls make is longer than what came in: it says more and counts as full. Else prove '..UptoSaid'. A law counts once. -/
mutual
def uptoBulk {H : Type} : DataW H → Nat
  | .lit (.string bytes) => bytes.length + 1
  | .lit _ => 1
  | .nil => 1
  | .ptr d => uptoBulk d + 1
  | .slice elems spare => uptoBulkAll elems + uptoBulkAll spare + 1
  | .agg parts => uptoBulkAll parts + 1
  | .iface _ d => uptoBulk d + 1
  | .map entries => uptoBulkEntries entries + 1
  | .held _ => 1
def uptoBulkAll {H : Type} : List (DataW H) → Nat
  | [] => 0
  | d :: r => uptoBulk d + uptoBulkAll r
def uptoBulkEntries {H : Type} : List (Lit × DataW H) → Nat
  | [] => 0
  | x :: r => uptoBulkEntry x + uptoBulkEntries r
def uptoBulkEntry {H : Type} : Lit × DataW H → Nat
  | (.string bytes, d) => bytes.length + uptoBulk d + 1
  | (_, d) => uptoBulk d + 1
 end
def uptoSmall : (H : Type) → List (DataW H) → Bool := fun _ ds => decide (uptoBulkAll ds ≤ 1048576)
def OpenSpec.upto (s : _root_.Go.ChangeSpec) : _root_.Go.OpenSpec := { _root_.Go.OpenSpec.ofChange s with cond := some uptoSmall }

/-- 'demesnelaw23.FlowStmt', WHERE WHAT IT READS IS OF BULK AT MOST 1048576: true; the input reads as it did. -/
def flowStmtUptoRow : OpenClaim := { program := "ythhdlpggmmfaiaagreat", sum := "2ef79ae55370ab2aa36eba69849324ca2a0824c54a1e703b3b3aaeb8a6455003", func := "demesne/demesnelaw23.FlowStmt", spec := "flowStmt", unfollowed := true, recurses := true, loops := true, apart := false, narrowed := true }
def FlowStmtUptoSaid : Prop := flowStmtUptoRow.holds Tryz.pinned (OpenSpec.upto flowStmtSpec)

/-- 'demesnelaw48.DotTree', WHERE WHAT IT READS IS OF BULK AT MOST 1048576: true; the input reads as it did. -/
def dotTreeUptoRow : OpenClaim := { program := "ythhdlpggmmfaiaagreat", sum := "2ef79ae55370ab2aa36eba69849324ca2a0824c54a1e703b3b3aaeb8a6455003", func := "demesne/demesnelaw48.DotTree", spec := "dotTree", inPlace := ["internal/abi.NoEscape", "internal/bytealg.MakeNoZero"], unfollowed := true, recurses := true, loops := true, apart := false, narrowed := true }
def DotTreeUptoSaid : Prop := dotTreeUptoRow.holds Tryz.pinned (OpenSpec.upto dotTreeSpec)

/-- 'demesnelaw48.DotDeep', WHERE WHAT IT READS IS OF BULK AT MOST 1048576: true; the input reads as it did. -/
def dotDeepUptoRow : OpenClaim := { program := "ythhdlpggmmfaiaagreat", sum := "2ef79ae55370ab2aa36eba69849324ca2a0824c54a1e703b3b3aaeb8a6455003", func := "demesne/demesnelaw48.DotDeep", spec := "dotDeep", inPlace := ["internal/abi.NoEscape", "internal/bytealg.MakeNoZero"], unfollowed := true, recurses := true, loops := true, apart := false, narrowed := true }
def DotDeepUptoSaid : Prop := dotDeepUptoRow.holds Tryz.pinned (OpenSpec.upto dotDeepSpec)

/-- 'demesnelaw23.FlowWays', WHERE WHAT IT READS IS OF BULK AT MOST 1048576: true; the input reads as it did. -/
def flowWaysUptoRow : OpenClaim := { program := "ythhdlpggmmfaiaagreat", sum := "2ef79ae55370ab2aa36eba69849324ca2a0824c54a1e703b3b3aaeb8a6455003", func := "demesne/demesnelaw23.FlowWays", spec := "flowWays", unfollowed := true, recurses := true, loops := true, apart := false, narrowed := true }
def FlowWaysUptoSaid : Prop := flowWaysUptoRow.holds Tryz.pinned (OpenSpec.upto flowWaysSpec)

end Rows
end Go.Proofs.YthhdlpggmmfaiaaGreat
