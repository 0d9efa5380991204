/- A part of the proof that the law ShapeOrder gives true for every input. -/
import Derived.Test.YtkmaieldmcjbfaaDoorShapeOrderA4
import Derived.Test.YtkmaieldmcjbfaaDoorShapeOrderT
import Derived.Test.YtkmaieldmcjbfaaDoorProg
namespace Go.Proofs.YtkmaieldmcjbfaaDoor
open Go.ChangeShapes Go.WideShapes Go.ChangeAt Go.RowKit Go.Abs
theorem own_Tryd : ownKnob Tryd.prog.godebug = none := by kernel_rfl
theorem laidOut_Tryd : laidOutB Tryd.prog = true := by kernel_rfl
theorem dec_t9 {H : Type} {enc : TypeId × Value → H} {w : World} (fuel : Nat) : DecAt enc Tryd.prog w fuel 9 eS (fun x => strok x) := dec_str (by kernel_rfl)
theorem dec_t27 {H : Type} {enc : TypeId × Value → H} {w : World} (fuel : Nat) : DecAt enc Tryd.prog w fuel 27 (eL 1 eS) (fun x => listok (fun y => strok y) x) := dec_slice (E := 9) (by kernel_rfl) (by kernel_rfl) rfl (fun _ => rfl) (fun n _ => dec_t9 n)
theorem dec_t3 {H : Type} {enc : TypeId × Value → H} {w : World} (fuel : Nat) : DecAt enc Tryd.prog w fuel 3 eI (fun x => i64ok x) := dec_int (by kernel_rfl)
def goodGOwner (x : GOwner) : Prop := i64ok x.fKind ∧ i64ok x.fN
theorem dec_t23 {H : Type} {enc : TypeId × Value → H} {w : World} (fuel : Nat) : DecAt enc Tryd.prog w fuel 23 eGOwner goodGOwner := by
  intro cs x hx
  obtain ⟨m, hm, hl, hp⟩ := dec_parts (l := [(3, 0, 1), (3, 1, 1)]) (n := 2) (by kernel_rfl) hx
  obtain ⟨_, q0⟩ := hp 0 3 0 1 rfl
  obtain ⟨y0, g0, r0⟩ := dec_t3 m _ _ q0
  obtain ⟨_, q1⟩ := hp 1 3 1 1 rfl
  obtain ⟨y1, g1, r1⟩ := dec_t3 m _ _ q1
  exact ⟨⟨y0, y1⟩, ⟨g0, g1⟩, reads0 (reads_cons (off := 0) r0 rfl (reads_cons (off := 1) r1 rfl (reads_nil hl)))⟩
theorem dec_t35 {H : Type} {enc : TypeId × Value → H} {w : World} (fuel : Nat) : DecAt enc Tryd.prog w fuel 35 (eL 2 eGOwner) (fun x => listok (fun y => goodGOwner y) x) := dec_slice (E := 23) (by kernel_rfl) (by kernel_rfl) rfl (fun _ => rfl) (fun n _ => dec_t23 n)
theorem dec_t24 {H : Type} {enc : TypeId × Value → H} {w : World} (fuel : Nat) : DecAt enc Tryd.prog w fuel 24 (eA4 eGOwner) (fun x => (goodGOwner x.a0 ∧ goodGOwner x.a1 ∧ goodGOwner x.a2 ∧ goodGOwner x.a3)) := dec_arr4 (E := 23) (sz := 2) (by kernel_rfl) (fun _ => rfl) (fun n _ => dec_t23 n)
def goodGType (x : GType) : Prop := i64ok x.fKind ∧ strok x.fClass ∧ i64ok x.fN ∧ (goodGOwner x.fOwn.a0 ∧ goodGOwner x.fOwn.a1 ∧ goodGOwner x.fOwn.a2 ∧ goodGOwner x.fOwn.a3)
theorem dec_t26 {H : Type} {enc : TypeId × Value → H} {w : World} (fuel : Nat) : DecAt enc Tryd.prog w fuel 26 eGType goodGType := by
  intro cs x hx
  obtain ⟨m, hm, hl, hp⟩ := dec_parts (l := [(3, 0, 1), (9, 1, 1), (3, 2, 1), (24, 3, 8)]) (n := 11) (by kernel_rfl) hx
  obtain ⟨_, q0⟩ := hp 0 3 0 1 rfl
  obtain ⟨y0, g0, r0⟩ := dec_t3 m _ _ q0
  obtain ⟨_, q1⟩ := hp 1 9 1 1 rfl
  obtain ⟨y1, g1, r1⟩ := dec_t9 m _ _ q1
  obtain ⟨_, q2⟩ := hp 2 3 2 1 rfl
  obtain ⟨y2, g2, r2⟩ := dec_t3 m _ _ q2
  obtain ⟨_, q3⟩ := hp 3 24 3 8 rfl
  obtain ⟨y3, g3, r3⟩ := dec_t24 m _ _ q3
  exact ⟨⟨y0, y1, y2, y3⟩, ⟨g0, g1, g2, g3⟩, reads0 (reads_cons (off := 0) r0 rfl (reads_cons (off := 1) r1 rfl (reads_cons (off := 2) r2 rfl (reads_cons (off := 3) r3 rfl (reads_nil hl)))))⟩
def goodGVar (x : GVar) : Prop := strok x.fName ∧ goodGType x.fType ∧ i64ok x.fAt
theorem dec_t52 {H : Type} {enc : TypeId × Value → H} {w : World} (fuel : Nat) : DecAt enc Tryd.prog w fuel 52 eGVar goodGVar := by
  intro cs x hx
  obtain ⟨m, hm, hl, hp⟩ := dec_parts (l := [(9, 0, 1), (26, 1, 11), (3, 12, 1)]) (n := 13) (by kernel_rfl) hx
  obtain ⟨_, q0⟩ := hp 0 9 0 1 rfl
  obtain ⟨y0, g0, r0⟩ := dec_t9 m _ _ q0
  obtain ⟨_, q1⟩ := hp 1 26 1 11 rfl
  obtain ⟨y1, g1, r1⟩ := dec_t26 m _ _ q1
  obtain ⟨_, q2⟩ := hp 2 3 12 1 rfl
  obtain ⟨y2, g2, r2⟩ := dec_t3 m _ _ q2
  exact ⟨⟨y0, y1, y2⟩, ⟨g0, g1, g2⟩, reads0 (reads_cons (off := 0) r0 rfl (reads_cons (off := 1) r1 rfl (reads_cons (off := 12) r2 rfl (reads_nil hl))))⟩
theorem dec_t36 {H : Type} {enc : TypeId × Value → H} {w : World} (fuel : Nat) : DecAt enc Tryd.prog w fuel 36 (eL 13 eGVar) (fun x => listok (fun y => goodGVar y) x) := dec_slice (E := 52) (by kernel_rfl) (by kernel_rfl) rfl (fun _ => rfl) (fun n _ => dec_t52 n)
theorem dec_t4 {H : Type} {enc : TypeId × Value → H} {w : World} (fuel : Nat) : DecAt enc Tryd.prog w fuel 4 eB (fun x => True) := dec_bool (by kernel_rfl)
inductive goodGExpr : GExpr → Prop
  | mk (x : GExpr) (h0 : i64ok x.fKind) (h1 : i64ok x.fNum) (h2 : strok x.fName) (l3 : x.fKids.length ≤ maxLen) (k3 : ∀ y ∈ x.fKids, goodGExpr y) : goodGExpr x
theorem dec_t45 {H : Type} {enc : TypeId × Value → H} {w : World} (fuel : Nat) : DecAt enc Tryd.prog w fuel 45 eGExpr goodGExpr := by
  induction fuel using Nat.strongRecOn with
  | _ fuel ih =>
  intro cs x hx
  obtain ⟨m, hm, hl, hp⟩ := dec_parts (l := [(3, 0, 1), (3, 1, 1), (9, 2, 1), (43, 3, 1)]) (n := 4) (by kernel_rfl) hx
  obtain ⟨_, q0⟩ := hp 0 3 0 1 rfl
  obtain ⟨y0, g0, r0⟩ := dec_t3 m _ _ q0
  obtain ⟨_, q1⟩ := hp 1 3 1 1 rfl
  obtain ⟨y1, g1, r1⟩ := dec_t3 m _ _ q1
  obtain ⟨_, q2⟩ := hp 2 9 2 1 rfl
  obtain ⟨y2, g2, r2⟩ := dec_t9 m _ _ q2
  obtain ⟨_, q3⟩ := hp 3 43 3 1 rfl
  obtain ⟨y3, g3, r3⟩ := (dec_slice (P := Tryd.prog) (enc := enc) (w := w) (fuel := m) (T := 43) (E := 45) (sz := 4) (e := eGExpr) (good := goodGExpr) (by kernel_rfl) (by kernel_rfl) rfl (fun _ => rfl) (fun k hk => ih k (by omega))) _ _ q3
  exact ⟨⟨y0, y1, y2, y3⟩, .mk _ g0 g1 g2 g3.1 g3.2, reads0 (reads_cons (off := 0) r0 rfl (reads_cons (off := 1) r1 rfl (reads_cons (off := 2) r2 rfl (reads_cons (off := 3) (vsR eLGExpr_map r3) rfl (reads_nil hl)))))⟩
theorem dec_t43 {H : Type} {enc : TypeId × Value → H} {w : World} (fuel : Nat) : DecAt enc Tryd.prog w fuel 43 (eL 4 eGExpr) (fun x => listok (fun y => goodGExpr y) x) := dec_slice (E := 45) (by kernel_rfl) (by kernel_rfl) rfl (fun _ => rfl) (fun n _ => dec_t45 n)
inductive goodGStmt : GStmt → Prop
  | mk (x : GStmt) (h0 : i64ok x.fKind) (h1 : strok x.fX) (h2 : strok x.fY) (h3 : strok x.fName) (h4 : goodGType x.fType) (h5 : goodGExpr x.fE) (h6 : listok (fun y => goodGExpr y) x.fArgs) (l7 : x.fBody.length ≤ maxLen) (k7 : ∀ y ∈ x.fBody, goodGStmt y) (l8 : x.fElse.length ≤ maxLen) (k8 : ∀ y ∈ x.fElse, goodGStmt y) (h9 : i64ok x.fAt) : goodGStmt x
theorem dec_t143 {H : Type} {enc : TypeId × Value → H} {w : World} (fuel : Nat) : DecAt enc Tryd.prog w fuel 143 eGStmt goodGStmt := by
  induction fuel using Nat.strongRecOn with
  | _ fuel ih =>
  intro cs x hx
  obtain ⟨m, hm, hl, hp⟩ := dec_parts (l := [(3, 0, 1), (9, 1, 1), (9, 2, 1), (9, 3, 1), (26, 4, 11), (45, 15, 4), (43, 19, 1), (40, 20, 1), (40, 21, 1), (3, 22, 1)]) (n := 23) (by kernel_rfl) hx
  obtain ⟨_, q0⟩ := hp 0 3 0 1 rfl
  obtain ⟨y0, g0, r0⟩ := dec_t3 m _ _ q0
  obtain ⟨_, q1⟩ := hp 1 9 1 1 rfl
  obtain ⟨y1, g1, r1⟩ := dec_t9 m _ _ q1
  obtain ⟨_, q2⟩ := hp 2 9 2 1 rfl
  obtain ⟨y2, g2, r2⟩ := dec_t9 m _ _ q2
  obtain ⟨_, q3⟩ := hp 3 9 3 1 rfl
  obtain ⟨y3, g3, r3⟩ := dec_t9 m _ _ q3
  obtain ⟨_, q4⟩ := hp 4 26 4 11 rfl
  obtain ⟨y4, g4, r4⟩ := dec_t26 m _ _ q4
  obtain ⟨_, q5⟩ := hp 5 45 15 4 rfl
  obtain ⟨y5, g5, r5⟩ := dec_t45 m _ _ q5
  obtain ⟨_, q6⟩ := hp 6 43 19 1 rfl
  obtain ⟨y6, g6, r6⟩ := dec_t43 m _ _ q6
  obtain ⟨_, q7⟩ := hp 7 40 20 1 rfl
  obtain ⟨y7, g7, r7⟩ := (dec_slice (P := Tryd.prog) (enc := enc) (w := w) (fuel := m) (T := 40) (E := 143) (sz := 23) (e := eGStmt) (good := goodGStmt) (by kernel_rfl) (by kernel_rfl) rfl (fun _ => rfl) (fun k hk => ih k (by omega))) _ _ q7
  obtain ⟨_, q8⟩ := hp 8 40 21 1 rfl
  obtain ⟨y8, g8, r8⟩ := (dec_slice (P := Tryd.prog) (enc := enc) (w := w) (fuel := m) (T := 40) (E := 143) (sz := 23) (e := eGStmt) (good := goodGStmt) (by kernel_rfl) (by kernel_rfl) rfl (fun _ => rfl) (fun k hk => ih k (by omega))) _ _ q8
  obtain ⟨_, q9⟩ := hp 9 3 22 1 rfl
  obtain ⟨y9, g9, r9⟩ := dec_t3 m _ _ q9
  exact ⟨⟨y0, y1, y2, y3, y4, y5, y6, y7, y8, y9⟩, .mk _ g0 g1 g2 g3 g4 g5 g6 g7.1 g7.2 g8.1 g8.2 g9, reads0 (reads_cons (off := 0) r0 rfl (reads_cons (off := 1) r1 rfl (reads_cons (off := 2) r2 rfl (reads_cons (off := 3) r3 rfl (reads_cons (off := 4) r4 rfl (reads_cons (off := 15) r5 rfl (reads_cons (off := 19) (vsR eLGExpr_map r6) rfl (reads_cons (off := 20) (vsR eLGStmt_map r7) rfl (reads_cons (off := 21) (vsR eLGStmt_map r8) rfl (reads_cons (off := 22) r9 rfl (reads_nil hl)))))))))))⟩
theorem dec_t40 {H : Type} {enc : TypeId × Value → H} {w : World} (fuel : Nat) : DecAt enc Tryd.prog w fuel 40 (eL 23 eGStmt) (fun x => listok (fun y => goodGStmt y) x) := dec_slice (E := 143) (by kernel_rfl) (by kernel_rfl) rfl (fun _ => rfl) (fun n _ => dec_t143 n)
def goodGMethod (x : GMethod) : Prop := strok x.fName ∧ True ∧ goodGType x.fRet ∧ listok (fun y => goodGVar y) x.fParams ∧ listok (fun y => goodGVar y) x.fLocals ∧ listok (fun y => goodGStmt y) x.fBody ∧ i64ok x.fAt
theorem dec_t42 {H : Type} {enc : TypeId × Value → H} {w : World} (fuel : Nat) : DecAt enc Tryd.prog w fuel 42 eGMethod goodGMethod := by
  intro cs x hx
  obtain ⟨m, hm, hl, hp⟩ := dec_parts (l := [(9, 0, 1), (4, 1, 1), (26, 2, 11), (36, 13, 1), (36, 14, 1), (40, 15, 1), (3, 16, 1)]) (n := 17) (by kernel_rfl) hx
  obtain ⟨_, q0⟩ := hp 0 9 0 1 rfl
  obtain ⟨y0, g0, r0⟩ := dec_t9 m _ _ q0
  obtain ⟨_, q1⟩ := hp 1 4 1 1 rfl
  obtain ⟨y1, g1, r1⟩ := dec_t4 m _ _ q1
  obtain ⟨_, q2⟩ := hp 2 26 2 11 rfl
  obtain ⟨y2, g2, r2⟩ := dec_t26 m _ _ q2
  obtain ⟨_, q3⟩ := hp 3 36 13 1 rfl
  obtain ⟨y3, g3, r3⟩ := dec_t36 m _ _ q3
  obtain ⟨_, q4⟩ := hp 4 36 14 1 rfl
  obtain ⟨y4, g4, r4⟩ := dec_t36 m _ _ q4
  obtain ⟨_, q5⟩ := hp 5 40 15 1 rfl
  obtain ⟨y5, g5, r5⟩ := dec_t40 m _ _ q5
  obtain ⟨_, q6⟩ := hp 6 3 16 1 rfl
  obtain ⟨y6, g6, r6⟩ := dec_t3 m _ _ q6
  exact ⟨⟨y0, y1, y2, y3, y4, y5, y6⟩, ⟨g0, g1, g2, g3, g4, g5, g6⟩, reads0 (reads_cons (off := 0) r0 rfl (reads_cons (off := 1) r1 rfl (reads_cons (off := 2) r2 rfl (reads_cons (off := 13) r3 rfl (reads_cons (off := 14) r4 rfl (reads_cons (off := 15) (vsR eLGStmt_map r5) rfl (reads_cons (off := 16) r6 rfl (reads_nil hl))))))))⟩
theorem dec_t37 {H : Type} {enc : TypeId × Value → H} {w : World} (fuel : Nat) : DecAt enc Tryd.prog w fuel 37 (eL 17 eGMethod) (fun x => listok (fun y => goodGMethod y) x) := dec_slice (E := 42) (by kernel_rfl) (by kernel_rfl) rfl (fun _ => rfl) (fun n _ => dec_t42 n)
def goodGClass (x : GClass) : Prop := strok x.fName ∧ listok (fun y => strok y) x.fParams ∧ strok x.fSuper ∧ listok (fun y => goodGOwner y) x.fAbove ∧ listok (fun y => goodGVar y) x.fFields ∧ listok (fun y => goodGMethod y) x.fMethods ∧ i64ok x.fAt
theorem dec_t39 {H : Type} {enc : TypeId × Value → H} {w : World} (fuel : Nat) : DecAt enc Tryd.prog w fuel 39 eGClass goodGClass := by
  intro cs x hx
  obtain ⟨m, hm, hl, hp⟩ := dec_parts (l := [(9, 0, 1), (27, 1, 1), (9, 2, 1), (35, 3, 1), (36, 4, 1), (37, 5, 1), (3, 6, 1)]) (n := 7) (by kernel_rfl) hx
  obtain ⟨_, q0⟩ := hp 0 9 0 1 rfl
  obtain ⟨y0, g0, r0⟩ := dec_t9 m _ _ q0
  obtain ⟨_, q1⟩ := hp 1 27 1 1 rfl
  obtain ⟨y1, g1, r1⟩ := dec_t27 m _ _ q1
  obtain ⟨_, q2⟩ := hp 2 9 2 1 rfl
  obtain ⟨y2, g2, r2⟩ := dec_t9 m _ _ q2
  obtain ⟨_, q3⟩ := hp 3 35 3 1 rfl
  obtain ⟨y3, g3, r3⟩ := dec_t35 m _ _ q3
  obtain ⟨_, q4⟩ := hp 4 36 4 1 rfl
  obtain ⟨y4, g4, r4⟩ := dec_t36 m _ _ q4
  obtain ⟨_, q5⟩ := hp 5 37 5 1 rfl
  obtain ⟨y5, g5, r5⟩ := dec_t37 m _ _ q5
  obtain ⟨_, q6⟩ := hp 6 3 6 1 rfl
  obtain ⟨y6, g6, r6⟩ := dec_t3 m _ _ q6
  exact ⟨⟨y0, y1, y2, y3, y4, y5, y6⟩, ⟨g0, g1, g2, g3, g4, g5, g6⟩, reads0 (reads_cons (off := 0) r0 rfl (reads_cons (off := 1) r1 rfl (reads_cons (off := 2) r2 rfl (reads_cons (off := 3) r3 rfl (reads_cons (off := 4) r4 rfl (reads_cons (off := 5) r5 rfl (reads_cons (off := 6) r6 rfl (reads_nil hl))))))))⟩
theorem dec_t58 {H : Type} {enc : TypeId × Value → H} {w : World} (fuel : Nat) : DecAt enc Tryd.prog w fuel 58 (eL 7 eGClass) (fun x => listok (fun y => goodGClass y) x) := dec_slice (E := 39) (by kernel_rfl) (by kernel_rfl) rfl (fun _ => rfl) (fun n _ => dec_t39 n)
theorem dec_t61 {H : Type} {enc : TypeId × Value → H} {w : World} (fuel : Nat) : DecAt enc Tryd.prog w fuel 61 (eA3 eGType) (fun x => (goodGType x.a0 ∧ goodGType x.a1 ∧ goodGType x.a2)) := dec_arr3 (E := 26) (sz := 11) (by kernel_rfl) (fun _ => rfl) (fun n _ => dec_t26 n)
end Go.Proofs.YtkmaieldmcjbfaaDoor
