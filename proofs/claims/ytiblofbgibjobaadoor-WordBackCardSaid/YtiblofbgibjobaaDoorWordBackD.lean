/- A part of the proof that the law WordBack gives true for every input. -/
import Derived.Test.YtiblofbgibjobaaDoorWordBackA2
import Derived.Test.YtiblofbgibjobaaDoorWordBackT
import Derived.Test.YtiblofbgibjobaaDoorProg
namespace Go.Proofs.YtiblofbgibjobaaDoor
open Go.ChangeShapes Go.WideShapes Go.ChangeAt Go.RowKit Go.Abs
theorem own_Tryd : ownKnob Tryd.prog.godebug = none := by kernel_rfl
theorem laidOut_Tryd : laidOutB Tryd.prog = true := by kernel_rfl
theorem dec_t27 {H : Type} {enc : TypeId × Value → H} {w : World} (fuel : Nat) : DecAt enc Tryd.prog w fuel 27 eI_u32 (fun x => u32ok x) := dec_u32 (by kernel_rfl)
theorem dec_t9 {H : Type} {enc : TypeId × Value → H} {w : World} (fuel : Nat) : DecAt enc Tryd.prog w fuel 9 eS (fun x => strok x) := dec_str (by kernel_rfl)
theorem dec_t5 {H : Type} {enc : TypeId × Value → H} {w : World} (fuel : Nat) : DecAt enc Tryd.prog w fuel 5 eI_u8 (fun x => u8ok x) := dec_u8 (by kernel_rfl)
end Go.Proofs.YtiblofbgibjobaaDoor
