/- A part of the proof that the law HeapPut gives true for every input. -/
import Derived.Test.YtdffghiejjaomaaAbsR
import Derived.Test.YtdffghiejjaomaaHeapPutT
import Derived.Test.YtdffghiejjaomaaProg
namespace Go.Proofs.Ytdffghiejjaomaa
open Go.ChangeShapes Go.WideShapes Go.ChangeAt Go.RowKit Go.Abs
theorem own_Try : ownKnob Try.prog.godebug = none := by kernel_rfl
theorem laidOut_Try : laidOutB Try.prog = true := by kernel_rfl
theorem dec_t9 {H : Type} {enc : TypeId × Value → H} {w : World} (fuel : Nat) : DecAt enc Try.prog w fuel 9 eS (fun x => strok x) := dec_str (by kernel_rfl)
theorem dec_t3 {H : Type} {enc : TypeId × Value → H} {w : World} (fuel : Nat) : DecAt enc Try.prog w fuel 3 eI (fun x => i64ok x) := dec_int (by kernel_rfl)
theorem dec_t27 {H : Type} {enc : TypeId × Value → H} {w : World} (fuel : Nat) : DecAt enc Try.prog w fuel 27 (eA4 eI) (fun x => (i64ok x.a0 ∧ i64ok x.a1 ∧ i64ok x.a2 ∧ i64ok x.a3)) := dec_arr4 (E := 3) (sz := 1) (by kernel_rfl) (fun _ => rfl) (fun n _ => dec_t3 n)
theorem dec_t4 {H : Type} {enc : TypeId × Value → H} {w : World} (fuel : Nat) : DecAt enc Try.prog w fuel 4 eB (fun x => True) := dec_bool (by kernel_rfl)
def goodGVal (x : GVal) : Prop := True ∧ i64ok x.fN
theorem dec_t24 {H : Type} {enc : TypeId × Value → H} {w : World} (fuel : Nat) : DecAt enc Try.prog w fuel 24 eGVal goodGVal := by
  intro cs x hx
  obtain ⟨m, hm, hl, hp⟩ := dec_parts (l := [(4, 0, 1), (3, 1, 1)]) (n := 2) (by kernel_rfl) hx
  obtain ⟨_, q0⟩ := hp 0 4 0 1 rfl
  obtain ⟨y0, g0, r0⟩ := dec_t4 m _ _ q0
  obtain ⟨_, q1⟩ := hp 1 3 1 1 rfl
  obtain ⟨y1, g1, r1⟩ := dec_t3 m _ _ q1
  exact ⟨⟨y0, y1⟩, ⟨g0, g1⟩, reads0 (reads_cons (off := 0) r0 rfl (reads_cons (off := 1) r1 rfl (reads_nil hl)))⟩
theorem dec_t28 {H : Type} {enc : TypeId × Value → H} {w : World} (fuel : Nat) : DecAt enc Try.prog w fuel 28 (eL 2 eGVal) (fun x => listok (fun y => goodGVal y) x) := dec_slice (E := 24) (by kernel_rfl) (by kernel_rfl) rfl (fun _ => rfl) (fun n _ => dec_t24 n)
def goodGCell (x : GCell) : Prop := strok x.fClass ∧ (i64ok x.fOwn.a0 ∧ i64ok x.fOwn.a1 ∧ i64ok x.fOwn.a2 ∧ i64ok x.fOwn.a3) ∧ listok (fun y => goodGVal y) x.fFields ∧ True
theorem dec_t30 {H : Type} {enc : TypeId × Value → H} {w : World} (fuel : Nat) : DecAt enc Try.prog w fuel 30 eGCell goodGCell := by
  intro cs x hx
  obtain ⟨m, hm, hl, hp⟩ := dec_parts (l := [(9, 0, 1), (27, 1, 4), (28, 5, 1), (4, 6, 1)]) (n := 7) (by kernel_rfl) hx
  obtain ⟨_, q0⟩ := hp 0 9 0 1 rfl
  obtain ⟨y0, g0, r0⟩ := dec_t9 m _ _ q0
  obtain ⟨_, q1⟩ := hp 1 27 1 4 rfl
  obtain ⟨y1, g1, r1⟩ := dec_t27 m _ _ q1
  obtain ⟨_, q2⟩ := hp 2 28 5 1 rfl
  obtain ⟨y2, g2, r2⟩ := dec_t28 m _ _ q2
  obtain ⟨_, q3⟩ := hp 3 4 6 1 rfl
  obtain ⟨y3, g3, r3⟩ := dec_t4 m _ _ q3
  exact ⟨⟨y0, y1, y2, y3⟩, ⟨g0, g1, g2, g3⟩, reads0 (reads_cons (off := 0) r0 rfl (reads_cons (off := 1) r1 rfl (reads_cons (off := 5) r2 rfl (reads_cons (off := 6) r3 rfl (reads_nil hl)))))⟩
theorem dec_t22 {H : Type} {enc : TypeId × Value → H} {w : World} (fuel : Nat) : DecAt enc Try.prog w fuel 22 (eL 7 eGCell) (fun x => listok (fun y => goodGCell y) x) := dec_slice (E := 30) (by kernel_rfl) (by kernel_rfl) rfl (fun _ => rfl) (fun n _ => dec_t30 n)
def goodGSlot_law35 (x : GSlot_law35) : Prop := i64ok x.fAt ∧ i64ok x.fI ∧ goodGVal x.fV
theorem dec_t26 {H : Type} {enc : TypeId × Value → H} {w : World} (fuel : Nat) : DecAt enc Try.prog w fuel 26 eGSlot_law35 goodGSlot_law35 := by
  intro cs x hx
  obtain ⟨m, hm, hl, hp⟩ := dec_parts (l := [(3, 0, 1), (3, 1, 1), (24, 2, 2)]) (n := 4) (by kernel_rfl) hx
  obtain ⟨_, q0⟩ := hp 0 3 0 1 rfl
  obtain ⟨y0, g0, r0⟩ := dec_t3 m _ _ q0
  obtain ⟨_, q1⟩ := hp 1 3 1 1 rfl
  obtain ⟨y1, g1, r1⟩ := dec_t3 m _ _ q1
  obtain ⟨_, q2⟩ := hp 2 24 2 2 rfl
  obtain ⟨y2, g2, r2⟩ := dec_t24 m _ _ q2
  exact ⟨⟨y0, y1, y2⟩, ⟨g0, g1, g2⟩, reads0 (reads_cons (off := 0) r0 rfl (reads_cons (off := 1) r1 rfl (reads_cons (off := 2) r2 rfl (reads_nil hl))))⟩
theorem dec_t57 {H : Type} {enc : TypeId × Value → H} {w : World} (fuel : Nat) : DecAt enc Try.prog w fuel 57 (eA2 eGSlot_law35) (fun x => (goodGSlot_law35 x.a0 ∧ goodGSlot_law35 x.a1)) := dec_arr2 (E := 26) (sz := 4) (by kernel_rfl) (fun _ => rfl) (fun n _ => dec_t26 n)
end Go.Proofs.Ytdffghiejjaomaa
