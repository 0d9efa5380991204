/- A part of the proof that the law EventBack gives true for every input. -/
import Derived.Test.YtccladleehbmhaaDoorEventBackA4
import Derived.Test.YtccladleehbmhaaDoorEventBackT
import Derived.Test.YtccladleehbmhaaDoorProg
namespace Go.Proofs.YtccladleehbmhaaDoor
open Go.ChangeShapes Go.WideShapes Go.ChangeAt Go.RowKit Go.Abs
theorem own_Tryd : ownKnob Tryd.prog.godebug = none := by kernel_rfl
theorem laidOut_Tryd : laidOutB Tryd.prog = true := by kernel_rfl
theorem dec_t3 {H : Type} {enc : TypeId × Value → H} {w : World} (fuel : Nat) : DecAt enc Tryd.prog w fuel 3 eI (fun x => i64ok x) := dec_int (by kernel_rfl)
theorem dec_t9 {H : Type} {enc : TypeId × Value → H} {w : World} (fuel : Nat) : DecAt enc Tryd.prog w fuel 9 eS (fun x => strok x) := dec_str (by kernel_rfl)
theorem dec_t4 {H : Type} {enc : TypeId × Value → H} {w : World} (fuel : Nat) : DecAt enc Tryd.prog w fuel 4 eB (fun x => True) := dec_bool (by kernel_rfl)
def goodGVal (x : GVal) : Prop := True ∧ i64ok x.fN
theorem dec_t24 {H : Type} {enc : TypeId × Value → H} {w : World} (fuel : Nat) : DecAt enc Tryd.prog w fuel 24 eGVal goodGVal := by
  intro cs x hx
  obtain ⟨m, hm, hl, hp⟩ := dec_parts (l := [(4, 0, 1), (3, 1, 1)]) (n := 2) (by kernel_rfl) hx
  obtain ⟨_, q0⟩ := hp 0 4 0 1 rfl
  obtain ⟨y0, g0, r0⟩ := dec_t4 m _ _ q0
  obtain ⟨_, q1⟩ := hp 1 3 1 1 rfl
  obtain ⟨y1, g1, r1⟩ := dec_t3 m _ _ q1
  exact ⟨⟨y0, y1⟩, ⟨g0, g1⟩, reads0 (reads_cons (off := 0) r0 rfl (reads_cons (off := 1) r1 rfl (reads_nil hl)))⟩
theorem dec_t25 {H : Type} {enc : TypeId × Value → H} {w : World} (fuel : Nat) : DecAt enc Tryd.prog w fuel 25 (eA4 eI) (fun x => (i64ok x.a0 ∧ i64ok x.a1 ∧ i64ok x.a2 ∧ i64ok x.a3)) := dec_arr4 (E := 3) (sz := 1) (by kernel_rfl) (fun _ => rfl) (fun n _ => dec_t3 n)
def goodGEvent (x : GEvent) : Prop := i64ok x.fKind ∧ i64ok x.fWho ∧ i64ok x.fObj ∧ strok x.fName ∧ goodGVal x.fV ∧ (i64ok x.fOwn.a0 ∧ i64ok x.fOwn.a1 ∧ i64ok x.fOwn.a2 ∧ i64ok x.fOwn.a3)
theorem dec_t27 {H : Type} {enc : TypeId × Value → H} {w : World} (fuel : Nat) : DecAt enc Tryd.prog w fuel 27 eGEvent goodGEvent := by
  intro cs x hx
  obtain ⟨m, hm, hl, hp⟩ := dec_parts (l := [(3, 0, 1), (3, 1, 1), (3, 2, 1), (9, 3, 1), (24, 4, 2), (25, 6, 4)]) (n := 10) (by kernel_rfl) hx
  obtain ⟨_, q0⟩ := hp 0 3 0 1 rfl
  obtain ⟨y0, g0, r0⟩ := dec_t3 m _ _ q0
  obtain ⟨_, q1⟩ := hp 1 3 1 1 rfl
  obtain ⟨y1, g1, r1⟩ := dec_t3 m _ _ q1
  obtain ⟨_, q2⟩ := hp 2 3 2 1 rfl
  obtain ⟨y2, g2, r2⟩ := dec_t3 m _ _ q2
  obtain ⟨_, q3⟩ := hp 3 9 3 1 rfl
  obtain ⟨y3, g3, r3⟩ := dec_t9 m _ _ q3
  obtain ⟨_, q4⟩ := hp 4 24 4 2 rfl
  obtain ⟨y4, g4, r4⟩ := dec_t24 m _ _ q4
  obtain ⟨_, q5⟩ := hp 5 25 6 4 rfl
  obtain ⟨y5, g5, r5⟩ := dec_t25 m _ _ q5
  exact ⟨⟨y0, y1, y2, y3, y4, y5⟩, ⟨g0, g1, g2, g3, g4, g5⟩, reads0 (reads_cons (off := 0) r0 rfl (reads_cons (off := 1) r1 rfl (reads_cons (off := 2) r2 rfl (reads_cons (off := 3) r3 rfl (reads_cons (off := 4) r4 rfl (reads_cons (off := 6) r5 rfl (reads_nil hl)))))))⟩
theorem dec_t30 {H : Type} {enc : TypeId × Value → H} {w : World} (fuel : Nat) : DecAt enc Tryd.prog w fuel 30 (eL 10 eGEvent) (fun x => listok (fun y => goodGEvent y) x) := dec_slice (E := 27) (by kernel_rfl) (by kernel_rfl) rfl (fun _ => rfl) (fun n _ => dec_t27 n)
end Go.Proofs.YtccladleehbmhaaDoor
