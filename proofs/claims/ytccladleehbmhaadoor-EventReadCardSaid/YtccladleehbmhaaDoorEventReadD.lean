/- A part of the proof that the law EventRead gives true for every input. -/
import Derived.Test.YtccladleehbmhaaDoorEventReadA3
import Derived.Test.YtccladleehbmhaaDoorEventReadT
import Derived.Test.YtccladleehbmhaaDoorProg
namespace Go.Proofs.YtccladleehbmhaaDoor
open Go.ChangeShapes Go.WideShapes Go.ChangeAt Go.RowKit Go.Abs
theorem own_Tryd : ownKnob Tryd.prog.godebug = none := by kernel_rfl
theorem laidOut_Tryd : laidOutB Tryd.prog = true := by kernel_rfl
theorem dec_t9 {H : Type} {enc : TypeId × Value → H} {w : World} (fuel : Nat) : DecAt enc Tryd.prog w fuel 9 eS (fun x => strok x) := dec_str (by kernel_rfl)
end Go.Proofs.YtccladleehbmhaaDoor
