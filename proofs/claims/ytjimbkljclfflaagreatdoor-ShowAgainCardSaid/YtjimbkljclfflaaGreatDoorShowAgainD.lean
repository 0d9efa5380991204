/- A part of the proof that the law ShowAgain gives true for every input. -/
import Derived.Test.YtjimbkljclfflaaGreatDoorShowAgainA4
import Derived.Test.YtjimbkljclfflaaGreatDoorShowAgainT
import Derived.Test.YtjimbkljclfflaaGreatDoorProg
namespace Go.Proofs.YtjimbkljclfflaaGreatDoor
open Go.ChangeShapes Go.WideShapes Go.ChangeAt Go.RowKit Go.Abs
theorem WZ : ownKnob Tryz.prog.godebug=none:=by kernel_rfl
theorem Kr : laidOutB Tryz.prog=true:=by kernel_rfl
theorem acd {H:Type} {enc:TypeId×Value->H} {w:World} (fuel:Nat):Xd enc Tryz.prog w fuel 9 eS (fun x=>WW x):=aab (by kernel_rfl)
end Go.Proofs.YtjimbkljclfflaaGreatDoor
