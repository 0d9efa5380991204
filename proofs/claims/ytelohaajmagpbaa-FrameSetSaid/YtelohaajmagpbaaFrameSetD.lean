/- A part of the proof that the law FrameSet gives true for every input. -/
import Derived.Test.YtelohaajmagpbaaFrameSetA3
import Derived.Test.YtelohaajmagpbaaFrameSetT
import Derived.Test.YtelohaajmagpbaaProg
namespace Go.Proofs.Ytelohaajmagpbaa
open Go.ChangeShapes Go.WideShapes Go.ChangeAt Go.RowKit Go.Abs
theorem own_Try : ownKnob Try.prog.godebug = none := by kernel_rfl
theorem laidOut_Try : laidOutB Try.prog = true := by kernel_rfl
theorem dec_t9 {H : Type} {enc : TypeId × Value → H} {w : World} (fuel : Nat) : DecAt enc Try.prog w fuel 9 eS (fun x => strok x) := dec_str (by kernel_rfl)
theorem dec_t44 {H : Type} {enc : TypeId × Value → H} {w : World} (fuel : Nat) : DecAt enc Try.prog w fuel 44 (eL 1 eS) (fun x => listok (fun y => strok y) x) := dec_slice (E := 9) (by kernel_rfl) (by kernel_rfl) rfl (fun _ => rfl) (fun n _ => dec_t9 n)
theorem dec_t3 {H : Type} {enc : TypeId × Value → H} {w : World} (fuel : Nat) : DecAt enc Try.prog w fuel 3 eI (fun x => i64ok x) := dec_int (by kernel_rfl)
def goodGOwner (x : GOwner) : Prop := i64ok x.fKind ∧ i64ok x.fN
theorem dec_t51 {H : Type} {enc : TypeId × Value → H} {w : World} (fuel : Nat) : DecAt enc Try.prog w fuel 51 eGOwner goodGOwner := by
  intro cs x hx
  obtain ⟨m, hm, hl, hp⟩ := dec_parts (l := [(3, 0, 1), (3, 1, 1)]) (n := 2) (by kernel_rfl) hx
  obtain ⟨_, q0⟩ := hp 0 3 0 1 rfl
  obtain ⟨y0, g0, r0⟩ := dec_t3 m _ _ q0
  obtain ⟨_, q1⟩ := hp 1 3 1 1 rfl
  obtain ⟨y1, g1, r1⟩ := dec_t3 m _ _ q1
  exact ⟨⟨y0, y1⟩, ⟨g0, g1⟩, reads0 (reads_cons (off := 0) r0 rfl (reads_cons (off := 1) r1 rfl (reads_nil hl)))⟩
theorem dec_t45 {H : Type} {enc : TypeId × Value → H} {w : World} (fuel : Nat) : DecAt enc Try.prog w fuel 45 (eL 2 eGOwner) (fun x => listok (fun y => goodGOwner y) x) := dec_slice (E := 51) (by kernel_rfl) (by kernel_rfl) rfl (fun _ => rfl) (fun n _ => dec_t51 n)
theorem dec_t52 {H : Type} {enc : TypeId × Value → H} {w : World} (fuel : Nat) : DecAt enc Try.prog w fuel 52 (eA4 eGOwner) (fun x => (goodGOwner x.a0 ∧ goodGOwner x.a1 ∧ goodGOwner x.a2 ∧ goodGOwner x.a3)) := dec_arr4 (E := 51) (sz := 2) (by kernel_rfl) (fun _ => rfl) (fun n _ => dec_t51 n)
def goodGType (x : GType) : Prop := i64ok x.fKind ∧ strok x.fClass ∧ i64ok x.fN ∧ (goodGOwner x.fOwn.a0 ∧ goodGOwner x.fOwn.a1 ∧ goodGOwner x.fOwn.a2 ∧ goodGOwner x.fOwn.a3)
theorem dec_t54 {H : Type} {enc : TypeId × Value → H} {w : World} (fuel : Nat) : DecAt enc Try.prog w fuel 54 eGType goodGType := by
  intro cs x hx
  obtain ⟨m, hm, hl, hp⟩ := dec_parts (l := [(3, 0, 1), (9, 1, 1), (3, 2, 1), (52, 3, 8)]) (n := 11) (by kernel_rfl) hx
  obtain ⟨_, q0⟩ := hp 0 3 0 1 rfl
  obtain ⟨y0, g0, r0⟩ := dec_t3 m _ _ q0
  obtain ⟨_, q1⟩ := hp 1 9 1 1 rfl
  obtain ⟨y1, g1, r1⟩ := dec_t9 m _ _ q1
  obtain ⟨_, q2⟩ := hp 2 3 2 1 rfl
  obtain ⟨y2, g2, r2⟩ := dec_t3 m _ _ q2
  obtain ⟨_, q3⟩ := hp 3 52 3 8 rfl
  obtain ⟨y3, g3, r3⟩ := dec_t52 m _ _ q3
  exact ⟨⟨y0, y1, y2, y3⟩, ⟨g0, g1, g2, g3⟩, reads0 (reads_cons (off := 0) r0 rfl (reads_cons (off := 1) r1 rfl (reads_cons (off := 2) r2 rfl (reads_cons (off := 3) r3 rfl (reads_nil hl)))))⟩
def goodGVar (x : GVar) : Prop := strok x.fName ∧ goodGType x.fType ∧ i64ok x.fAt
theorem dec_t92 {H : Type} {enc : TypeId × Value → H} {w : World} (fuel : Nat) : DecAt enc Try.prog w fuel 92 eGVar goodGVar := by
  intro cs x hx
  obtain ⟨m, hm, hl, hp⟩ := dec_parts (l := [(9, 0, 1), (54, 1, 11), (3, 12, 1)]) (n := 13) (by kernel_rfl) hx
  obtain ⟨_, q0⟩ := hp 0 9 0 1 rfl
  obtain ⟨y0, g0, r0⟩ := dec_t9 m _ _ q0
  obtain ⟨_, q1⟩ := hp 1 54 1 11 rfl
  obtain ⟨y1, g1, r1⟩ := dec_t54 m _ _ q1
  obtain ⟨_, q2⟩ := hp 2 3 12 1 rfl
  obtain ⟨y2, g2, r2⟩ := dec_t3 m _ _ q2
  exact ⟨⟨y0, y1, y2⟩, ⟨g0, g1, g2⟩, reads0 (reads_cons (off := 0) r0 rfl (reads_cons (off := 1) r1 rfl (reads_cons (off := 12) r2 rfl (reads_nil hl))))⟩
theorem dec_t46 {H : Type} {enc : TypeId × Value → H} {w : World} (fuel : Nat) : DecAt enc Try.prog w fuel 46 (eL 13 eGVar) (fun x => listok (fun y => goodGVar y) x) := dec_slice (E := 92) (by kernel_rfl) (by kernel_rfl) rfl (fun _ => rfl) (fun n _ => dec_t92 n)
theorem dec_t4 {H : Type} {enc : TypeId × Value → H} {w : World} (fuel : Nat) : DecAt enc Try.prog w fuel 4 eB (fun x => True) := dec_bool (by kernel_rfl)
inductive goodGExpr : GExpr → Prop
  | mk (x : GExpr) (h0 : i64ok x.fKind) (h1 : i64ok x.fNum) (h2 : strok x.fName) (l3 : x.fKids.length ≤ maxLen) (k3 : ∀ y ∈ x.fKids, goodGExpr y) : goodGExpr x
theorem dec_t80 {H : Type} {enc : TypeId × Value → H} {w : World} (fuel : Nat) : DecAt enc Try.prog w fuel 80 eGExpr goodGExpr := by
  induction fuel using Nat.strongRecOn with
  | _ fuel ih =>
  intro cs x hx
  obtain ⟨m, hm, hl, hp⟩ := dec_parts (l := [(3, 0, 1), (3, 1, 1), (9, 2, 1), (78, 3, 1)]) (n := 4) (by kernel_rfl) hx
  obtain ⟨_, q0⟩ := hp 0 3 0 1 rfl
  obtain ⟨y0, g0, r0⟩ := dec_t3 m _ _ q0
  obtain ⟨_, q1⟩ := hp 1 3 1 1 rfl
  obtain ⟨y1, g1, r1⟩ := dec_t3 m _ _ q1
  obtain ⟨_, q2⟩ := hp 2 9 2 1 rfl
  obtain ⟨y2, g2, r2⟩ := dec_t9 m _ _ q2
  obtain ⟨_, q3⟩ := hp 3 78 3 1 rfl
  obtain ⟨y3, g3, r3⟩ := (dec_slice (P := Try.prog) (enc := enc) (w := w) (fuel := m) (T := 78) (E := 80) (sz := 4) (e := eGExpr) (good := goodGExpr) (by kernel_rfl) (by kernel_rfl) rfl (fun _ => rfl) (fun k hk => ih k (by omega))) _ _ q3
  exact ⟨⟨y0, y1, y2, y3⟩, .mk _ g0 g1 g2 g3.1 g3.2, reads0 (reads_cons (off := 0) r0 rfl (reads_cons (off := 1) r1 rfl (reads_cons (off := 2) r2 rfl (reads_cons (off := 3) (vsR eLGExpr_map r3) rfl (reads_nil hl)))))⟩
theorem dec_t78 {H : Type} {enc : TypeId × Value → H} {w : World} (fuel : Nat) : DecAt enc Try.prog w fuel 78 (eL 4 eGExpr) (fun x => listok (fun y => goodGExpr y) x) := dec_slice (E := 80) (by kernel_rfl) (by kernel_rfl) rfl (fun _ => rfl) (fun n _ => dec_t80 n)
inductive goodGStmt : GStmt → Prop
  | mk (x : GStmt) (h0 : i64ok x.fKind) (h1 : strok x.fX) (h2 : strok x.fY) (h3 : strok x.fName) (h4 : goodGType x.fType) (h5 : goodGExpr x.fE) (h6 : listok (fun y => goodGExpr y) x.fArgs) (l7 : x.fBody.length ≤ maxLen) (k7 : ∀ y ∈ x.fBody, goodGStmt y) (l8 : x.fElse.length ≤ maxLen) (k8 : ∀ y ∈ x.fElse, goodGStmt y) (h9 : i64ok x.fAt) : goodGStmt x
theorem dec_t82 {H : Type} {enc : TypeId × Value → H} {w : World} (fuel : Nat) : DecAt enc Try.prog w fuel 82 eGStmt goodGStmt := by
  induction fuel using Nat.strongRecOn with
  | _ fuel ih =>
  intro cs x hx
  obtain ⟨m, hm, hl, hp⟩ := dec_parts (l := [(3, 0, 1), (9, 1, 1), (9, 2, 1), (9, 3, 1), (54, 4, 11), (80, 15, 4), (78, 19, 1), (64, 20, 1), (64, 21, 1), (3, 22, 1)]) (n := 23) (by kernel_rfl) hx
  obtain ⟨_, q0⟩ := hp 0 3 0 1 rfl
  obtain ⟨y0, g0, r0⟩ := dec_t3 m _ _ q0
  obtain ⟨_, q1⟩ := hp 1 9 1 1 rfl
  obtain ⟨y1, g1, r1⟩ := dec_t9 m _ _ q1
  obtain ⟨_, q2⟩ := hp 2 9 2 1 rfl
  obtain ⟨y2, g2, r2⟩ := dec_t9 m _ _ q2
  obtain ⟨_, q3⟩ := hp 3 9 3 1 rfl
  obtain ⟨y3, g3, r3⟩ := dec_t9 m _ _ q3
  obtain ⟨_, q4⟩ := hp 4 54 4 11 rfl
  obtain ⟨y4, g4, r4⟩ := dec_t54 m _ _ q4
  obtain ⟨_, q5⟩ := hp 5 80 15 4 rfl
  obtain ⟨y5, g5, r5⟩ := dec_t80 m _ _ q5
  obtain ⟨_, q6⟩ := hp 6 78 19 1 rfl
  obtain ⟨y6, g6, r6⟩ := dec_t78 m _ _ q6
  obtain ⟨_, q7⟩ := hp 7 64 20 1 rfl
  obtain ⟨y7, g7, r7⟩ := (dec_slice (P := Try.prog) (enc := enc) (w := w) (fuel := m) (T := 64) (E := 82) (sz := 23) (e := eGStmt) (good := goodGStmt) (by kernel_rfl) (by kernel_rfl) rfl (fun _ => rfl) (fun k hk => ih k (by omega))) _ _ q7
  obtain ⟨_, q8⟩ := hp 8 64 21 1 rfl
  obtain ⟨y8, g8, r8⟩ := (dec_slice (P := Try.prog) (enc := enc) (w := w) (fuel := m) (T := 64) (E := 82) (sz := 23) (e := eGStmt) (good := goodGStmt) (by kernel_rfl) (by kernel_rfl) rfl (fun _ => rfl) (fun k hk => ih k (by omega))) _ _ q8
  obtain ⟨_, q9⟩ := hp 9 3 22 1 rfl
  obtain ⟨y9, g9, r9⟩ := dec_t3 m _ _ q9
  exact ⟨⟨y0, y1, y2, y3, y4, y5, y6, y7, y8, y9⟩, .mk _ g0 g1 g2 g3 g4 g5 g6 g7.1 g7.2 g8.1 g8.2 g9, reads0 (reads_cons (off := 0) r0 rfl (reads_cons (off := 1) r1 rfl (reads_cons (off := 2) r2 rfl (reads_cons (off := 3) r3 rfl (reads_cons (off := 4) r4 rfl (reads_cons (off := 15) r5 rfl (reads_cons (off := 19) (vsR eLGExpr_map r6) rfl (reads_cons (off := 20) (vsR eLGStmt_map r7) rfl (reads_cons (off := 21) (vsR eLGStmt_map r8) rfl (reads_cons (off := 22) r9 rfl (reads_nil hl)))))))))))⟩
theorem dec_t64 {H : Type} {enc : TypeId × Value → H} {w : World} (fuel : Nat) : DecAt enc Try.prog w fuel 64 (eL 23 eGStmt) (fun x => listok (fun y => goodGStmt y) x) := dec_slice (E := 82) (by kernel_rfl) (by kernel_rfl) rfl (fun _ => rfl) (fun n _ => dec_t82 n)
def goodGMethod (x : GMethod) : Prop := strok x.fName ∧ True ∧ goodGType x.fRet ∧ listok (fun y => goodGVar y) x.fParams ∧ listok (fun y => goodGVar y) x.fLocals ∧ listok (fun y => goodGStmt y) x.fBody ∧ i64ok x.fAt
theorem dec_t66 {H : Type} {enc : TypeId × Value → H} {w : World} (fuel : Nat) : DecAt enc Try.prog w fuel 66 eGMethod goodGMethod := by
  intro cs x hx
  obtain ⟨m, hm, hl, hp⟩ := dec_parts (l := [(9, 0, 1), (4, 1, 1), (54, 2, 11), (46, 13, 1), (46, 14, 1), (64, 15, 1), (3, 16, 1)]) (n := 17) (by kernel_rfl) hx
  obtain ⟨_, q0⟩ := hp 0 9 0 1 rfl
  obtain ⟨y0, g0, r0⟩ := dec_t9 m _ _ q0
  obtain ⟨_, q1⟩ := hp 1 4 1 1 rfl
  obtain ⟨y1, g1, r1⟩ := dec_t4 m _ _ q1
  obtain ⟨_, q2⟩ := hp 2 54 2 11 rfl
  obtain ⟨y2, g2, r2⟩ := dec_t54 m _ _ q2
  obtain ⟨_, q3⟩ := hp 3 46 13 1 rfl
  obtain ⟨y3, g3, r3⟩ := dec_t46 m _ _ q3
  obtain ⟨_, q4⟩ := hp 4 46 14 1 rfl
  obtain ⟨y4, g4, r4⟩ := dec_t46 m _ _ q4
  obtain ⟨_, q5⟩ := hp 5 64 15 1 rfl
  obtain ⟨y5, g5, r5⟩ := dec_t64 m _ _ q5
  obtain ⟨_, q6⟩ := hp 6 3 16 1 rfl
  obtain ⟨y6, g6, r6⟩ := dec_t3 m _ _ q6
  exact ⟨⟨y0, y1, y2, y3, y4, y5, y6⟩, ⟨g0, g1, g2, g3, g4, g5, g6⟩, reads0 (reads_cons (off := 0) r0 rfl (reads_cons (off := 1) r1 rfl (reads_cons (off := 2) r2 rfl (reads_cons (off := 13) r3 rfl (reads_cons (off := 14) r4 rfl (reads_cons (off := 15) (vsR eLGStmt_map r5) rfl (reads_cons (off := 16) r6 rfl (reads_nil hl))))))))⟩
theorem dec_t47 {H : Type} {enc : TypeId × Value → H} {w : World} (fuel : Nat) : DecAt enc Try.prog w fuel 47 (eL 17 eGMethod) (fun x => listok (fun y => goodGMethod y) x) := dec_slice (E := 66) (by kernel_rfl) (by kernel_rfl) rfl (fun _ => rfl) (fun n _ => dec_t66 n)
def goodGClass (x : GClass) : Prop := strok x.fName ∧ listok (fun y => strok y) x.fParams ∧ strok x.fSuper ∧ listok (fun y => goodGOwner y) x.fAbove ∧ listok (fun y => goodGVar y) x.fFields ∧ listok (fun y => goodGMethod y) x.fMethods ∧ i64ok x.fAt
theorem dec_t49 {H : Type} {enc : TypeId × Value → H} {w : World} (fuel : Nat) : DecAt enc Try.prog w fuel 49 eGClass goodGClass := by
  intro cs x hx
  obtain ⟨m, hm, hl, hp⟩ := dec_parts (l := [(9, 0, 1), (44, 1, 1), (9, 2, 1), (45, 3, 1), (46, 4, 1), (47, 5, 1), (3, 6, 1)]) (n := 7) (by kernel_rfl) hx
  obtain ⟨_, q0⟩ := hp 0 9 0 1 rfl
  obtain ⟨y0, g0, r0⟩ := dec_t9 m _ _ q0
  obtain ⟨_, q1⟩ := hp 1 44 1 1 rfl
  obtain ⟨y1, g1, r1⟩ := dec_t44 m _ _ q1
  obtain ⟨_, q2⟩ := hp 2 9 2 1 rfl
  obtain ⟨y2, g2, r2⟩ := dec_t9 m _ _ q2
  obtain ⟨_, q3⟩ := hp 3 45 3 1 rfl
  obtain ⟨y3, g3, r3⟩ := dec_t45 m _ _ q3
  obtain ⟨_, q4⟩ := hp 4 46 4 1 rfl
  obtain ⟨y4, g4, r4⟩ := dec_t46 m _ _ q4
  obtain ⟨_, q5⟩ := hp 5 47 5 1 rfl
  obtain ⟨y5, g5, r5⟩ := dec_t47 m _ _ q5
  obtain ⟨_, q6⟩ := hp 6 3 6 1 rfl
  obtain ⟨y6, g6, r6⟩ := dec_t3 m _ _ q6
  exact ⟨⟨y0, y1, y2, y3, y4, y5, y6⟩, ⟨g0, g1, g2, g3, g4, g5, g6⟩, reads0 (reads_cons (off := 0) r0 rfl (reads_cons (off := 1) r1 rfl (reads_cons (off := 2) r2 rfl (reads_cons (off := 3) r3 rfl (reads_cons (off := 4) r4 rfl (reads_cons (off := 5) r5 rfl (reads_cons (off := 6) r6 rfl (reads_nil hl))))))))⟩
theorem dec_t22 {H : Type} {enc : TypeId × Value → H} {w : World} (fuel : Nat) : DecAt enc Try.prog w fuel 22 (eL 7 eGClass) (fun x => listok (fun y => goodGClass y) x) := dec_slice (E := 49) (by kernel_rfl) (by kernel_rfl) rfl (fun _ => rfl) (fun n _ => dec_t49 n)
theorem dec_t41 {H : Type} {enc : TypeId × Value → H} {w : World} (fuel : Nat) : DecAt enc Try.prog w fuel 41 (eA4 eI) (fun x => (i64ok x.a0 ∧ i64ok x.a1 ∧ i64ok x.a2 ∧ i64ok x.a3)) := dec_arr4 (E := 3) (sz := 1) (by kernel_rfl) (fun _ => rfl) (fun n _ => dec_t3 n)
def goodGVal (x : GVal) : Prop := True ∧ i64ok x.fN
theorem dec_t30 {H : Type} {enc : TypeId × Value → H} {w : World} (fuel : Nat) : DecAt enc Try.prog w fuel 30 eGVal goodGVal := by
  intro cs x hx
  obtain ⟨m, hm, hl, hp⟩ := dec_parts (l := [(4, 0, 1), (3, 1, 1)]) (n := 2) (by kernel_rfl) hx
  obtain ⟨_, q0⟩ := hp 0 4 0 1 rfl
  obtain ⟨y0, g0, r0⟩ := dec_t4 m _ _ q0
  obtain ⟨_, q1⟩ := hp 1 3 1 1 rfl
  obtain ⟨y1, g1, r1⟩ := dec_t3 m _ _ q1
  exact ⟨⟨y0, y1⟩, ⟨g0, g1⟩, reads0 (reads_cons (off := 0) r0 rfl (reads_cons (off := 1) r1 rfl (reads_nil hl)))⟩
theorem dec_t24 {H : Type} {enc : TypeId × Value → H} {w : World} (fuel : Nat) : DecAt enc Try.prog w fuel 24 (eL 2 eGVal) (fun x => listok (fun y => goodGVal y) x) := dec_slice (E := 30) (by kernel_rfl) (by kernel_rfl) rfl (fun _ => rfl) (fun n _ => dec_t30 n)
def goodGCell (x : GCell) : Prop := strok x.fClass ∧ (i64ok x.fOwn.a0 ∧ i64ok x.fOwn.a1 ∧ i64ok x.fOwn.a2 ∧ i64ok x.fOwn.a3) ∧ listok (fun y => goodGVal y) x.fFields ∧ True
theorem dec_t43 {H : Type} {enc : TypeId × Value → H} {w : World} (fuel : Nat) : DecAt enc Try.prog w fuel 43 eGCell goodGCell := by
  intro cs x hx
  obtain ⟨m, hm, hl, hp⟩ := dec_parts (l := [(9, 0, 1), (41, 1, 4), (24, 5, 1), (4, 6, 1)]) (n := 7) (by kernel_rfl) hx
  obtain ⟨_, q0⟩ := hp 0 9 0 1 rfl
  obtain ⟨y0, g0, r0⟩ := dec_t9 m _ _ q0
  obtain ⟨_, q1⟩ := hp 1 41 1 4 rfl
  obtain ⟨y1, g1, r1⟩ := dec_t41 m _ _ q1
  obtain ⟨_, q2⟩ := hp 2 24 5 1 rfl
  obtain ⟨y2, g2, r2⟩ := dec_t24 m _ _ q2
  obtain ⟨_, q3⟩ := hp 3 4 6 1 rfl
  obtain ⟨y3, g3, r3⟩ := dec_t4 m _ _ q3
  exact ⟨⟨y0, y1, y2, y3⟩, ⟨g0, g1, g2, g3⟩, reads0 (reads_cons (off := 0) r0 rfl (reads_cons (off := 1) r1 rfl (reads_cons (off := 5) r2 rfl (reads_cons (off := 6) r3 rfl (reads_nil hl)))))⟩
theorem dec_t23 {H : Type} {enc : TypeId × Value → H} {w : World} (fuel : Nat) : DecAt enc Try.prog w fuel 23 (eL 7 eGCell) (fun x => listok (fun y => goodGCell y) x) := dec_slice (E := 43) (by kernel_rfl) (by kernel_rfl) rfl (fun _ => rfl) (fun n _ => dec_t43 n)
def goodGFrame (x : GFrame) : Prop := i64ok x.fThis ∧ strok x.fClass ∧ strok x.fMethod ∧ listok (fun y => goodGVal y) x.fVars ∧ i64ok x.fPC ∧ i64ok x.fInto
theorem dec_t26 {H : Type} {enc : TypeId × Value → H} {w : World} (fuel : Nat) : DecAt enc Try.prog w fuel 26 eGFrame goodGFrame := by
  intro cs x hx
  obtain ⟨m, hm, hl, hp⟩ := dec_parts (l := [(3, 0, 1), (9, 1, 1), (9, 2, 1), (24, 3, 1), (3, 4, 1), (3, 5, 1)]) (n := 6) (by kernel_rfl) hx
  obtain ⟨_, q0⟩ := hp 0 3 0 1 rfl
  obtain ⟨y0, g0, r0⟩ := dec_t3 m _ _ q0
  obtain ⟨_, q1⟩ := hp 1 9 1 1 rfl
  obtain ⟨y1, g1, r1⟩ := dec_t9 m _ _ q1
  obtain ⟨_, q2⟩ := hp 2 9 2 1 rfl
  obtain ⟨y2, g2, r2⟩ := dec_t9 m _ _ q2
  obtain ⟨_, q3⟩ := hp 3 24 3 1 rfl
  obtain ⟨y3, g3, r3⟩ := dec_t24 m _ _ q3
  obtain ⟨_, q4⟩ := hp 4 3 4 1 rfl
  obtain ⟨y4, g4, r4⟩ := dec_t3 m _ _ q4
  obtain ⟨_, q5⟩ := hp 5 3 5 1 rfl
  obtain ⟨y5, g5, r5⟩ := dec_t3 m _ _ q5
  exact ⟨⟨y0, y1, y2, y3, y4, y5⟩, ⟨g0, g1, g2, g3, g4, g5⟩, reads0 (reads_cons (off := 0) r0 rfl (reads_cons (off := 1) r1 rfl (reads_cons (off := 2) r2 rfl (reads_cons (off := 3) r3 rfl (reads_cons (off := 4) r4 rfl (reads_cons (off := 5) r5 rfl (reads_nil hl)))))))⟩
def goodGWorld_law38 (x : GWorld_law38) : Prop := listok (fun y => goodGCell y) x.fL ∧ goodGFrame x.fF
theorem dec_t28 {H : Type} {enc : TypeId × Value → H} {w : World} (fuel : Nat) : DecAt enc Try.prog w fuel 28 eGWorld_law38 goodGWorld_law38 := by
  intro cs x hx
  obtain ⟨m, hm, hl, hp⟩ := dec_parts (l := [(23, 0, 1), (26, 1, 6)]) (n := 7) (by kernel_rfl) hx
  obtain ⟨_, q0⟩ := hp 0 23 0 1 rfl
  obtain ⟨y0, g0, r0⟩ := dec_t23 m _ _ q0
  obtain ⟨_, q1⟩ := hp 1 26 1 6 rfl
  obtain ⟨y1, g1, r1⟩ := dec_t26 m _ _ q1
  exact ⟨⟨y0, y1⟩, ⟨g0, g1⟩, reads0 (reads_cons (off := 0) r0 rfl (reads_cons (off := 1) r1 rfl (reads_nil hl)))⟩
def goodGPut_law38 (x : GPut_law38) : Prop := strok x.fName ∧ goodGVal x.fV
theorem dec_t32 {H : Type} {enc : TypeId × Value → H} {w : World} (fuel : Nat) : DecAt enc Try.prog w fuel 32 eGPut_law38 goodGPut_law38 := by
  intro cs x hx
  obtain ⟨m, hm, hl, hp⟩ := dec_parts (l := [(9, 0, 1), (30, 1, 2)]) (n := 3) (by kernel_rfl) hx
  obtain ⟨_, q0⟩ := hp 0 9 0 1 rfl
  obtain ⟨y0, g0, r0⟩ := dec_t9 m _ _ q0
  obtain ⟨_, q1⟩ := hp 1 30 1 2 rfl
  obtain ⟨y1, g1, r1⟩ := dec_t30 m _ _ q1
  exact ⟨⟨y0, y1⟩, ⟨g0, g1⟩, reads0 (reads_cons (off := 0) r0 rfl (reads_cons (off := 1) r1 rfl (reads_nil hl)))⟩
theorem dec_t33 {H : Type} {enc : TypeId × Value → H} {w : World} (fuel : Nat) : DecAt enc Try.prog w fuel 33 (eA2 eGPut_law38) (fun x => (goodGPut_law38 x.a0 ∧ goodGPut_law38 x.a1)) := dec_arr2 (E := 32) (sz := 3) (by kernel_rfl) (fun _ => rfl) (fun n _ => dec_t32 n)
end Go.Proofs.Ytelohaajmagpbaa
