/- A part of the proof that the law KindTells gives true for every input. -/
import Derived.Test.YtkmaieldmcjbfaaDoorKindTellsA3
import Derived.Test.YtkmaieldmcjbfaaDoorKindTellsT
import Derived.Test.YtkmaieldmcjbfaaDoorProg
namespace Go.Proofs.YtkmaieldmcjbfaaDoor
open Go.ChangeShapes Go.WideShapes Go.ChangeAt Go.RowKit Go.Abs
theorem own_Tryd : ownKnob Tryd.prog.godebug = none := by kernel_rfl
theorem laidOut_Tryd : laidOutB Tryd.prog = true := by kernel_rfl
theorem dec_t3 {H : Type} {K : Bk H} {enc : TypeId × Value → H} {w : World} (fuel : Nat) : DecU K enc Tryd.prog w fuel 3 eI (fun x => i64ok x) (fun _ => 1) := decU_int (by kernel_rfl)
theorem dec_t9 {H : Type} {K : Bk H} {enc : TypeId × Value → H} {w : World} (fuel : Nat) : DecU K enc Tryd.prog w fuel 9 eS (fun x => strok x) (fun s => List.length s + 1) := decU_str (by kernel_rfl)
def goodGOwner (x : GOwner) : Prop := i64ok x.fKind ∧ i64ok x.fN
def uGOwner (x : GOwner) : Nat := 1 + (1 + (0)) + 1
theorem dec_t23 {H : Type} {K : Bk H} {enc : TypeId × Value → H} {w : World} (fuel : Nat) : DecU K enc Tryd.prog w fuel 23 eGOwner goodGOwner uGOwner := by
  intro cs x hx
  obtain ⟨m, xs, hm, hl, hd, hxl, hp⟩ := decU_parts (l := [(3, 0, 1), (3, 1, 1)]) (n := 2) (by kernel_rfl) hx
  obtain ⟨w0, v0, q0⟩ := hp 0 3 0 1 rfl
  obtain ⟨y0, g0, b0, r0⟩ := dec_t3 m _ _ q0
  obtain ⟨w1, v1, q1⟩ := hp 1 3 1 1 rfl
  obtain ⟨y1, g1, b1, r1⟩ := dec_t3 m _ _ q1
  exact ⟨⟨y0, y1⟩, ⟨g0, g1⟩, agg_ns [1, 1] hd hxl rfl ⟨⟨w0, v0, b0⟩, ⟨w1, v1, b1⟩, trivial⟩, reads0 (reads_cons (off := 0) r0 rfl (reads_cons (off := 1) r1 rfl (reads_nil hl)))⟩
theorem dec_t24 {H : Type} {K : Bk H} {enc : TypeId × Value → H} {w : World} (fuel : Nat) : DecU K enc Tryd.prog w fuel 24 (eA4 eGOwner) (fun x => (goodGOwner x.a0 ∧ goodGOwner x.a1 ∧ goodGOwner x.a2 ∧ goodGOwner x.a3)) (fun x => uGOwner x.a0 + (uGOwner x.a1 + (uGOwner x.a2 + (uGOwner x.a3 + 0))) + 1) := decU_arr4 (E := 23) (sz := 2) (by kernel_rfl) (fun _ => rfl) (fun n _ => dec_t23 n)
def goodGType (x : GType) : Prop := i64ok x.fKind ∧ strok x.fClass ∧ i64ok x.fN ∧ (goodGOwner x.fOwn.a0 ∧ goodGOwner x.fOwn.a1 ∧ goodGOwner x.fOwn.a2 ∧ goodGOwner x.fOwn.a3)
def uGType (x : GType) : Nat := 1 + ((List.length x.fClass + 1) + (1 + ((uGOwner x.fOwn.a0 + (uGOwner x.fOwn.a1 + (uGOwner x.fOwn.a2 + (uGOwner x.fOwn.a3 + (0)))) + 1) + (0)))) + 1
theorem dec_t26 {H : Type} {K : Bk H} {enc : TypeId × Value → H} {w : World} (fuel : Nat) : DecU K enc Tryd.prog w fuel 26 eGType goodGType uGType := by
  intro cs x hx
  obtain ⟨m, xs, hm, hl, hd, hxl, hp⟩ := decU_parts (l := [(3, 0, 1), (9, 1, 1), (3, 2, 1), (24, 3, 8)]) (n := 11) (by kernel_rfl) hx
  obtain ⟨w0, v0, q0⟩ := hp 0 3 0 1 rfl
  obtain ⟨y0, g0, b0, r0⟩ := dec_t3 m _ _ q0
  obtain ⟨w1, v1, q1⟩ := hp 1 9 1 1 rfl
  obtain ⟨y1, g1, b1, r1⟩ := dec_t9 m _ _ q1
  obtain ⟨w2, v2, q2⟩ := hp 2 3 2 1 rfl
  obtain ⟨y2, g2, b2, r2⟩ := dec_t3 m _ _ q2
  obtain ⟨w3, v3, q3⟩ := hp 3 24 3 8 rfl
  obtain ⟨y3, g3, b3, r3⟩ := dec_t24 m _ _ q3
  exact ⟨⟨y0, y1, y2, y3⟩, ⟨g0, g1, g2, g3⟩, agg_ns [1, (List.length y1 + 1), 1, (uGOwner y3.a0 + (uGOwner y3.a1 + (uGOwner y3.a2 + (uGOwner y3.a3 + (0)))) + 1)] hd hxl rfl ⟨⟨w0, v0, b0⟩, ⟨w1, v1, b1⟩, ⟨w2, v2, b2⟩, ⟨w3, v3, b3⟩, trivial⟩, reads0 (reads_cons (off := 0) r0 rfl (reads_cons (off := 1) r1 rfl (reads_cons (off := 2) r2 rfl (reads_cons (off := 3) r3 rfl (reads_nil hl)))))⟩
theorem dec_t27 {H : Type} {K : Bk H} {enc : TypeId × Value → H} {w : World} (fuel : Nat) : DecU K enc Tryd.prog w fuel 27 (eL 1 eS) (fun x => listok (fun y => strok y) x) (fun l => lsum (fun s => List.length s + 1) l + 1) := decU_slice (E := 9) (by kernel_rfl) (by kernel_rfl) rfl (fun _ => rfl) (fun n _ => dec_t9 n)
end Go.Proofs.YtkmaieldmcjbfaaDoor
