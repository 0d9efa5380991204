/- A part of the proof that the law KindApart gives true for every input. -/
import Derived.Test.YtkmaieldmcjbfaaDoorKindApartA3
import Derived.Test.YtkmaieldmcjbfaaDoorKindApartT
import Derived.Test.YtkmaieldmcjbfaaDoorProg
namespace Go.Proofs.YtkmaieldmcjbfaaDoor
open Go.ChangeShapes Go.WideShapes Go.ChangeAt Go.RowKit Go.Abs
theorem own_Tryd : ownKnob Tryd.prog.godebug = none := by kernel_rfl
theorem laidOut_Tryd : laidOutB Tryd.prog = true := by kernel_rfl
theorem dec_t3 {H : Type} {enc : TypeId × Value → H} {w : World} (fuel : Nat) : DecAt enc Tryd.prog w fuel 3 eI (fun x => i64ok x) := dec_int (by kernel_rfl)
theorem dec_t9 {H : Type} {enc : TypeId × Value → H} {w : World} (fuel : Nat) : DecAt enc Tryd.prog w fuel 9 eS (fun x => strok x) := dec_str (by kernel_rfl)
def goodGOwner (x : GOwner) : Prop := i64ok x.fKind ∧ i64ok x.fN
theorem dec_t23 {H : Type} {enc : TypeId × Value → H} {w : World} (fuel : Nat) : DecAt enc Tryd.prog w fuel 23 eGOwner goodGOwner := by
  intro cs x hx
  obtain ⟨m, hm, hl, hp⟩ := dec_parts (l := [(3, 0, 1), (3, 1, 1)]) (n := 2) (by kernel_rfl) hx
  obtain ⟨_, q0⟩ := hp 0 3 0 1 rfl
  obtain ⟨y0, g0, r0⟩ := dec_t3 m _ _ q0
  obtain ⟨_, q1⟩ := hp 1 3 1 1 rfl
  obtain ⟨y1, g1, r1⟩ := dec_t3 m _ _ q1
  exact ⟨⟨y0, y1⟩, ⟨g0, g1⟩, reads0 (reads_cons (off := 0) r0 rfl (reads_cons (off := 1) r1 rfl (reads_nil hl)))⟩
theorem dec_t24 {H : Type} {enc : TypeId × Value → H} {w : World} (fuel : Nat) : DecAt enc Tryd.prog w fuel 24 (eA4 eGOwner) (fun x => (goodGOwner x.a0 ∧ goodGOwner x.a1 ∧ goodGOwner x.a2 ∧ goodGOwner x.a3)) := dec_arr4 (E := 23) (sz := 2) (by kernel_rfl) (fun _ => rfl) (fun n _ => dec_t23 n)
def goodGType (x : GType) : Prop := i64ok x.fKind ∧ strok x.fClass ∧ i64ok x.fN ∧ (goodGOwner x.fOwn.a0 ∧ goodGOwner x.fOwn.a1 ∧ goodGOwner x.fOwn.a2 ∧ goodGOwner x.fOwn.a3)
theorem dec_t26 {H : Type} {enc : TypeId × Value → H} {w : World} (fuel : Nat) : DecAt enc Tryd.prog w fuel 26 eGType goodGType := by
  intro cs x hx
  obtain ⟨m, hm, hl, hp⟩ := dec_parts (l := [(3, 0, 1), (9, 1, 1), (3, 2, 1), (24, 3, 8)]) (n := 11) (by kernel_rfl) hx
  obtain ⟨_, q0⟩ := hp 0 3 0 1 rfl
  obtain ⟨y0, g0, r0⟩ := dec_t3 m _ _ q0
  obtain ⟨_, q1⟩ := hp 1 9 1 1 rfl
  obtain ⟨y1, g1, r1⟩ := dec_t9 m _ _ q1
  obtain ⟨_, q2⟩ := hp 2 3 2 1 rfl
  obtain ⟨y2, g2, r2⟩ := dec_t3 m _ _ q2
  obtain ⟨_, q3⟩ := hp 3 24 3 8 rfl
  obtain ⟨y3, g3, r3⟩ := dec_t24 m _ _ q3
  exact ⟨⟨y0, y1, y2, y3⟩, ⟨g0, g1, g2, g3⟩, reads0 (reads_cons (off := 0) r0 rfl (reads_cons (off := 1) r1 rfl (reads_cons (off := 2) r2 rfl (reads_cons (off := 3) r3 rfl (reads_nil hl)))))⟩
theorem dec_t27 {H : Type} {enc : TypeId × Value → H} {w : World} (fuel : Nat) : DecAt enc Tryd.prog w fuel 27 (eL 1 eS) (fun x => listok (fun y => strok y) x) := dec_slice (E := 9) (by kernel_rfl) (by kernel_rfl) rfl (fun _ => rfl) (fun n _ => dec_t9 n)
end Go.Proofs.YtkmaieldmcjbfaaDoor
