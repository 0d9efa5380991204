/-
  NARROWER THAN 'FOR EVERY INPUT', by the rows' own cells (each row's printed sentence says how): MethodFind: loops · MethodKeeps: loops · ScopeType: loops · ScopeMore: loops.
  DERIVED. THE GIVEN ROWS OF THIS SEAT. 7 by the template 'for every input the law returns true; each argument reads behind the call as it read before'; 0 by the template 'total and deterministic' (their statements: YtahieoaggbmicaaTotals.lean).
  GIVEN WITH THE SEED: the statements are not yours to turn. If you find one false, say at which input.
  Laid BY PROGRAM, IN A SANDBOX (cutbox-rows.mjs): the forced cells as the released guide's own fill.sh prints them over the translation 7b762a5a693069df… (all of the seat's roots in one cut). By AI agents, Wed Nov 11 2026. No macro, syntax, notation, axiom, sorry.
-/
import Derived.Test.YtahieoaggbmicaaChecked
import GoSem.Claim
import GoSem.ClaimJoined
import GoSem.ClaimMapViews
import Derived.JoinedTies
import Derived.KernelRfl
namespace Go.Proofs.Ytahieoaggbmicaa
/- THE CELL 'sum', in the pinned program and in every row, IS THE sha256 OF THE DUMP (.gsa) THAT YtahieoaggbmicaaProg.lean LOADS. Nothing in Lean hashes anything: it is a label: what it is worth is what the hold of that sum in a sandbox is worth. -/
noncomputable def Try.pinned : Pinned := { name := "ytahieoaggbmicaa", sum := "7b762a5a693069dfe9b290b3029b65335dcc1c8c509250048e32147dd5f87bd5", checked := Try.checked }
namespace Rows
def none {H : Type} : Left H := { results := [], args := [] }

/-- 'demesnelaw17.MethodFind': WHATEVER THE INPUT: true; the input reads as it did. -/
def methodFindSpec : ChangeSpec := { name := "methodFind", fn := fun _ => fun
  | [d1, d2, d3] => { results := [.lit (.bool true)], args := [d1, d2, d3] }
  | _ => none }
def methodFindRow : OpenClaim := { program := "ytahieoaggbmicaa", sum := "7b762a5a693069dfe9b290b3029b65335dcc1c8c509250048e32147dd5f87bd5", func := "demesne/demesnelaw17.MethodFind", spec := "methodFind", unfollowed := true, recurses := true, loops := true, apart := false }
def MethodFindSaid : Prop := methodFindRow.holds Try.pinned (OpenSpec.ofChange methodFindSpec)

/-- ITS FALSE NEIGHBOUR: 'it returns false'. Refute it at one input. -/
def methodFindWrong : ChangeSpec := { name := "methodFind", fn := fun _ => fun
  | [d1, d2, d3] => { results := [.lit (.bool false)], args := [d1, d2, d3] }
  | _ => none }
def MethodFindWrongFalsely : Prop := methodFindRow.holds Try.pinned (OpenSpec.ofChange methodFindWrong)

/-- 'demesnelaw17.MethodKeeps': WHATEVER THE INPUT: true; the input reads as it did. -/
def methodKeepsSpec : ChangeSpec := { name := "methodKeeps", fn := fun _ => fun
  | [d1, d2, d3] => { results := [.lit (.bool true)], args := [d1, d2, d3] }
  | _ => none }
def methodKeepsRow : OpenClaim := { program := "ytahieoaggbmicaa", sum := "7b762a5a693069dfe9b290b3029b65335dcc1c8c509250048e32147dd5f87bd5", func := "demesne/demesnelaw17.MethodKeeps", spec := "methodKeeps", unfollowed := true, recurses := true, loops := true, apart := false }
def MethodKeepsSaid : Prop := methodKeepsRow.holds Try.pinned (OpenSpec.ofChange methodKeepsSpec)

/-- ITS FALSE NEIGHBOUR: 'it returns false'. Refute it at one input. -/
def methodKeepsWrong : ChangeSpec := { name := "methodKeeps", fn := fun _ => fun
  | [d1, d2, d3] => { results := [.lit (.bool false)], args := [d1, d2, d3] }
  | _ => none }
def MethodKeepsWrongFalsely : Prop := methodKeepsRow.holds Try.pinned (OpenSpec.ofChange methodKeepsWrong)

/-- 'demesnelaw18.ScopeType': WHATEVER THE INPUT: true; the input reads as it did. -/
def scopeTypeSpec : ChangeSpec := { name := "scopeType", fn := fun _ => fun
  | [d1, d2, d3] => { results := [.lit (.bool true)], args := [d1, d2, d3] }
  | _ => none }
def scopeTypeRow : OpenClaim := { program := "ytahieoaggbmicaa", sum := "7b762a5a693069dfe9b290b3029b65335dcc1c8c509250048e32147dd5f87bd5", func := "demesne/demesnelaw18.ScopeType", spec := "scopeType", unfollowed := true, recurses := true, loops := true, apart := false }
def ScopeTypeSaid : Prop := scopeTypeRow.holds Try.pinned (OpenSpec.ofChange scopeTypeSpec)

/-- ITS FALSE NEIGHBOUR: 'it returns false'. Refute it at one input. -/
def scopeTypeWrong : ChangeSpec := { name := "scopeType", fn := fun _ => fun
  | [d1, d2, d3] => { results := [.lit (.bool false)], args := [d1, d2, d3] }
  | _ => none }
def ScopeTypeWrongFalsely : Prop := scopeTypeRow.holds Try.pinned (OpenSpec.ofChange scopeTypeWrong)

/-- 'demesnelaw18.ScopeMore': WHATEVER THE INPUT: true; the input reads as it did. -/
def scopeMoreSpec : ChangeSpec := { name := "scopeMore", fn := fun _ => fun
  | [d1, d2, d3] => { results := [.lit (.bool true)], args := [d1, d2, d3] }
  | _ => none }
def scopeMoreRow : OpenClaim := { program := "ytahieoaggbmicaa", sum := "7b762a5a693069dfe9b290b3029b65335dcc1c8c509250048e32147dd5f87bd5", func := "demesne/demesnelaw18.ScopeMore", spec := "scopeMore", unfollowed := true, recurses := true, loops := true, apart := false }
def ScopeMoreSaid : Prop := scopeMoreRow.holds Try.pinned (OpenSpec.ofChange scopeMoreSpec)

/-- ITS FALSE NEIGHBOUR: 'it returns false'. Refute it at one input. -/
def scopeMoreWrong : ChangeSpec := { name := "scopeMore", fn := fun _ => fun
  | [d1, d2, d3] => { results := [.lit (.bool false)], args := [d1, d2, d3] }
  | _ => none }
def ScopeMoreWrongFalsely : Prop := scopeMoreRow.holds Try.pinned (OpenSpec.ofChange scopeMoreWrong)

/-- 'demesnelaw01.PlaceLines': WHATEVER THE INPUT: true; the input reads as it did. -/
def placeLinesSpec : ChangeSpec := { name := "placeLines", fn := fun _ => fun
  | [d1, d2] => { results := [.lit (.bool true)], args := [d1, d2] }
  | _ => none }
def placeLinesRow : OpenClaim := { program := "ytahieoaggbmicaa", sum := "7b762a5a693069dfe9b290b3029b65335dcc1c8c509250048e32147dd5f87bd5", func := "demesne/demesnelaw01.PlaceLines", spec := "placeLines", inPlace := ["internal/bytealg.CountString", "internal/bytealg.IndexByteString", "internal/bytealg.IndexString"], unfollowed := true, recurses := true, named := ["internal/bytealg.MaxLen"], apart := false }
def PlaceLinesSaid : Prop := placeLinesRow.holds Try.pinned (OpenSpec.ofChange placeLinesSpec)

/-- ITS FALSE NEIGHBOUR: 'it returns false'. Refute it at one input. -/
def placeLinesWrong : ChangeSpec := { name := "placeLines", fn := fun _ => fun
  | [d1, d2] => { results := [.lit (.bool false)], args := [d1, d2] }
  | _ => none }
def PlaceLinesWrongFalsely : Prop := placeLinesRow.holds Try.pinned (OpenSpec.ofChange placeLinesWrong)

/-- 'demesnelaw01.PlaceOf': WHATEVER THE INPUT: true; the input reads as it did. -/
def placeOfSpec : ChangeSpec := { name := "placeOf", fn := fun _ => fun
  | [d1, d2, d3] => { results := [.lit (.bool true)], args := [d1, d2, d3] }
  | _ => none }
def placeOfRow : OpenClaim := { program := "ytahieoaggbmicaa", sum := "7b762a5a693069dfe9b290b3029b65335dcc1c8c509250048e32147dd5f87bd5", func := "demesne/demesnelaw01.PlaceOf", spec := "placeOf", inPlace := ["internal/bytealg.CountString", "internal/bytealg.IndexByteString", "internal/bytealg.IndexString"], unfollowed := true, recurses := true, named := ["internal/bytealg.MaxLen"], apart := false }
def PlaceOfSaid : Prop := placeOfRow.holds Try.pinned (OpenSpec.ofChange placeOfSpec)

/-- ITS FALSE NEIGHBOUR: 'it returns false'. Refute it at one input. -/
def placeOfWrong : ChangeSpec := { name := "placeOf", fn := fun _ => fun
  | [d1, d2, d3] => { results := [.lit (.bool false)], args := [d1, d2, d3] }
  | _ => none }
def PlaceOfWrongFalsely : Prop := placeOfRow.holds Try.pinned (OpenSpec.ofChange placeOfWrong)

/-- 'demesnelaw01.PlaceBack': WHATEVER THE INPUT: true; the input reads as it did. -/
def placeBackSpec : ChangeSpec := { name := "placeBack", fn := fun _ => fun
  | [d1, d2, d3] => { results := [.lit (.bool true)], args := [d1, d2, d3] }
  | _ => none }
def placeBackRow : OpenClaim := { program := "ytahieoaggbmicaa", sum := "7b762a5a693069dfe9b290b3029b65335dcc1c8c509250048e32147dd5f87bd5", func := "demesne/demesnelaw01.PlaceBack", spec := "placeBack", inPlace := ["internal/bytealg.CountString", "internal/bytealg.IndexByteString", "internal/bytealg.IndexString"], unfollowed := true, recurses := true, named := ["internal/bytealg.MaxLen"], apart := false }
def PlaceBackSaid : Prop := placeBackRow.holds Try.pinned (OpenSpec.ofChange placeBackSpec)

/-- ITS FALSE NEIGHBOUR: 'it returns false'. Refute it at one input. -/
def placeBackWrong : ChangeSpec := { name := "placeBack", fn := fun _ => fun
  | [d1, d2, d3] => { results := [.lit (.bool false)], args := [d1, d2, d3] }
  | _ => none }
def PlaceBackWrongFalsely : Prop := placeBackRow.holds Try.pinned (OpenSpec.ofChange placeBackWrong)

/- THE SECOND FORM. 'bulk': how many values and letters a reading holds, each counted each time it is reached (what is shared counts as often as it is met; a slice's spare places count too). A statement '..UptoSaid' is the law's where the arguments, and the package variables that the reading takes, are together of bulk at most 1048576: NARROWER than '..Said'. Prove '..Said' where nothing that the law and all that it calls make is longer than what came in: it says more and counts as full. Else prove '..UptoSaid'. A law counts once. -/
mutual
def uptoBulk {H : Type} : DataW H → Nat
  | .lit (.string bytes) => bytes.length + 1
  | .lit _ => 1
  | .nil => 1
  | .ptr d => uptoBulk d + 1
  | .slice elems spare => uptoBulkAll elems + uptoBulkAll spare + 1
  | .agg parts => uptoBulkAll parts + 1
  | .iface _ d => uptoBulk d + 1
  | .map entries => uptoBulkEntries entries + 1
  | .held _ => 1
def uptoBulkAll {H : Type} : List (DataW H) → Nat
  | [] => 0
  | d :: r => uptoBulk d + uptoBulkAll r
def uptoBulkEntries {H : Type} : List (Lit × DataW H) → Nat
  | [] => 0
  | x :: r => uptoBulkEntry x + uptoBulkEntries r
def uptoBulkEntry {H : Type} : Lit × DataW H → Nat
  | (.string bytes, d) => bytes.length + uptoBulk d + 1
  | (_, d) => uptoBulk d + 1
 end
def uptoSmall : (H : Type) → List (DataW H) → Bool := fun _ ds => decide (uptoBulkAll ds ≤ 1048576)
def OpenSpec.upto (s : _root_.Go.ChangeSpec) : _root_.Go.OpenSpec := { _root_.Go.OpenSpec.ofChange s with cond := some uptoSmall }

/-- 'demesnelaw17.MethodFind', WHERE WHAT IT READS IS OF BULK AT MOST 1048576: true; the input reads as it did. -/
def methodFindUptoRow : OpenClaim := { program := "ytahieoaggbmicaa", sum := "7b762a5a693069dfe9b290b3029b65335dcc1c8c509250048e32147dd5f87bd5", func := "demesne/demesnelaw17.MethodFind", spec := "methodFind", unfollowed := true, recurses := true, loops := true, apart := false, narrowed := true }
def MethodFindUptoSaid : Prop := methodFindUptoRow.holds Try.pinned (OpenSpec.upto methodFindSpec)

/-- 'demesnelaw17.MethodKeeps', WHERE WHAT IT READS IS OF BULK AT MOST 1048576: true; the input reads as it did. -/
def methodKeepsUptoRow : OpenClaim := { program := "ytahieoaggbmicaa", sum := "7b762a5a693069dfe9b290b3029b65335dcc1c8c509250048e32147dd5f87bd5", func := "demesne/demesnelaw17.MethodKeeps", spec := "methodKeeps", unfollowed := true, recurses := true, loops := true, apart := false, narrowed := true }
def MethodKeepsUptoSaid : Prop := methodKeepsUptoRow.holds Try.pinned (OpenSpec.upto methodKeepsSpec)

/-- 'demesnelaw18.ScopeType', WHERE WHAT IT READS IS OF BULK AT MOST 1048576: true; the input reads as it did. -/
def scopeTypeUptoRow : OpenClaim := { program := "ytahieoaggbmicaa", sum := "7b762a5a693069dfe9b290b3029b65335dcc1c8c509250048e32147dd5f87bd5", func := "demesne/demesnelaw18.ScopeType", spec := "scopeType", unfollowed := true, recurses := true, loops := true, apart := false, narrowed := true }
def ScopeTypeUptoSaid : Prop := scopeTypeUptoRow.holds Try.pinned (OpenSpec.upto scopeTypeSpec)

/-- 'demesnelaw18.ScopeMore', WHERE WHAT IT READS IS OF BULK AT MOST 1048576: true; the input reads as it did. -/
def scopeMoreUptoRow : OpenClaim := { program := "ytahieoaggbmicaa", sum := "7b762a5a693069dfe9b290b3029b65335dcc1c8c509250048e32147dd5f87bd5", func := "demesne/demesnelaw18.ScopeMore", spec := "scopeMore", unfollowed := true, recurses := true, loops := true, apart := false, narrowed := true }
def ScopeMoreUptoSaid : Prop := scopeMoreUptoRow.holds Try.pinned (OpenSpec.upto scopeMoreSpec)

/-- 'demesnelaw01.PlaceLines', WHERE WHAT IT READS IS OF BULK AT MOST 1048576: true; the input reads as it did. -/
def placeLinesUptoRow : OpenClaim := { program := "ytahieoaggbmicaa", sum := "7b762a5a693069dfe9b290b3029b65335dcc1c8c509250048e32147dd5f87bd5", func := "demesne/demesnelaw01.PlaceLines", spec := "placeLines", inPlace := ["internal/bytealg.CountString", "internal/bytealg.IndexByteString", "internal/bytealg.IndexString"], unfollowed := true, recurses := true, named := ["internal/bytealg.MaxLen"], apart := false, narrowed := true }
def PlaceLinesUptoSaid : Prop := placeLinesUptoRow.holds Try.pinned (OpenSpec.upto placeLinesSpec)

/-- 'demesnelaw01.PlaceOf', WHERE WHAT IT READS IS OF BULK AT MOST 1048576: true; the input reads as it did. -/
def placeOfUptoRow : OpenClaim := { program := "ytahieoaggbmicaa", sum := "7b762a5a693069dfe9b290b3029b65335dcc1c8c509250048e32147dd5f87bd5", func := "demesne/demesnelaw01.PlaceOf", spec := "placeOf", inPlace := ["internal/bytealg.CountString", "internal/bytealg.IndexByteString", "internal/bytealg.IndexString"], unfollowed := true, recurses := true, named := ["internal/bytealg.MaxLen"], apart := false, narrowed := true }
def PlaceOfUptoSaid : Prop := placeOfUptoRow.holds Try.pinned (OpenSpec.upto placeOfSpec)

/-- 'demesnelaw01.PlaceBack', WHERE WHAT IT READS IS OF BULK AT MOST 1048576: true; the input reads as it did. -/
def placeBackUptoRow : OpenClaim := { program := "ytahieoaggbmicaa", sum := "7b762a5a693069dfe9b290b3029b65335dcc1c8c509250048e32147dd5f87bd5", func := "demesne/demesnelaw01.PlaceBack", spec := "placeBack", inPlace := ["internal/bytealg.CountString", "internal/bytealg.IndexByteString", "internal/bytealg.IndexString"], unfollowed := true, recurses := true, named := ["internal/bytealg.MaxLen"], apart := false, narrowed := true }
def PlaceBackUptoSaid : Prop := placeBackUptoRow.holds Try.pinned (OpenSpec.upto placeBackSpec)

end Rows
end Go.Proofs.Ytahieoaggbmicaa
