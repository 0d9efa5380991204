/- A part of the proof that the law PlaceOf gives true for every input. -/
import Derived.Test.YtcdgamjijdneeaaAbsR
import Derived.Test.YtcdgamjijdneeaaPlaceOfT
import Derived.Test.YtcdgamjijdneeaaProg
namespace Go.Proofs.Ytcdgamjijdneeaa
open Go.ChangeShapes Go.WideShapes Go.ChangeAt Go.RowKit Go.Abs
theorem own_Try : ownKnob Try.prog.godebug = none := by kernel_rfl
theorem laidOut_Try : laidOutB Try.prog = true := by kernel_rfl
theorem dec_t9 {H : Type} {enc : TypeId × Value → H} {w : World} (fuel : Nat) : DecAt enc Try.prog w fuel 9 eS (fun x => strok x) := dec_str (by kernel_rfl)
theorem dec_t3 {H : Type} {enc : TypeId × Value → H} {w : World} (fuel : Nat) : DecAt enc Try.prog w fuel 3 eI (fun x => i64ok x) := dec_int (by kernel_rfl)
theorem dec_t27 {H : Type} {enc : TypeId × Value → H} {w : World} (fuel : Nat) : DecAt enc Try.prog w fuel 27 (eA2 eI) (fun x => (i64ok x.a0 ∧ i64ok x.a1)) := dec_arr2 (E := 3) (sz := 1) (by kernel_rfl) (fun _ => rfl) (fun n _ => dec_t3 n)
end Go.Proofs.Ytcdgamjijdneeaa
