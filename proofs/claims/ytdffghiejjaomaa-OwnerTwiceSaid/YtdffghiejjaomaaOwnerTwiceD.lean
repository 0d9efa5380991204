/- A part of the proof that the law OwnerTwice gives true for every input. -/
import Derived.Test.YtdffghiejjaomaaAbsR
import Derived.Test.YtdffghiejjaomaaOwnerTwiceT
import Derived.Test.YtdffghiejjaomaaProg
namespace Go.Proofs.Ytdffghiejjaomaa
open Go.ChangeShapes Go.WideShapes Go.ChangeAt Go.RowKit Go.Abs
theorem own_Try : ownKnob Try.prog.godebug = none := by kernel_rfl
theorem laidOut_Try : laidOutB Try.prog = true := by kernel_rfl
theorem dec_t3 {H : Type} {enc : TypeId × Value → H} {w : World} (fuel : Nat) : DecAt enc Try.prog w fuel 3 eI (fun x => i64ok x) := dec_int (by kernel_rfl)
def goodGOwner (x : GOwner) : Prop := i64ok x.fKind ∧ i64ok x.fN
theorem dec_t42 {H : Type} {enc : TypeId × Value → H} {w : World} (fuel : Nat) : DecAt enc Try.prog w fuel 42 eGOwner goodGOwner := by
  intro cs x hx
  obtain ⟨m, hm, hl, hp⟩ := dec_parts (l := [(3, 0, 1), (3, 1, 1)]) (n := 2) (by kernel_rfl) hx
  obtain ⟨_, q0⟩ := hp 0 3 0 1 rfl
  obtain ⟨y0, g0, r0⟩ := dec_t3 m _ _ q0
  obtain ⟨_, q1⟩ := hp 1 3 1 1 rfl
  obtain ⟨y1, g1, r1⟩ := dec_t3 m _ _ q1
  exact ⟨⟨y0, y1⟩, ⟨g0, g1⟩, reads0 (reads_cons (off := 0) r0 rfl (reads_cons (off := 1) r1 rfl (reads_nil hl)))⟩
theorem dec_t78 {H : Type} {enc : TypeId × Value → H} {w : World} (fuel : Nat) : DecAt enc Try.prog w fuel 78 (eA3 eGOwner) (fun x => (goodGOwner x.a0 ∧ goodGOwner x.a1 ∧ goodGOwner x.a2)) := dec_arr3 (E := 42) (sz := 2) (by kernel_rfl) (fun _ => rfl) (fun n _ => dec_t42 n)
theorem dec_t43 {H : Type} {enc : TypeId × Value → H} {w : World} (fuel : Nat) : DecAt enc Try.prog w fuel 43 (eL 2 eGOwner) (fun x => listok (fun y => goodGOwner y) x) := dec_slice (E := 42) (by kernel_rfl) (by kernel_rfl) rfl (fun _ => rfl) (fun n _ => dec_t42 n)
end Go.Proofs.Ytdffghiejjaomaa
