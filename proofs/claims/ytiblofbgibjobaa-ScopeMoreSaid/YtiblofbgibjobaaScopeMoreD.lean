/- A part of the proof that the law ScopeMore gives true for every input. -/
import Derived.Test.YtiblofbgibjobaaScopeMoreA3
import Derived.Test.YtiblofbgibjobaaScopeMoreT
import Derived.Test.YtiblofbgibjobaaProg
namespace Go.Proofs.Ytiblofbgibjobaa
open Go.ChangeShapes Go.WideShapes Go.ChangeAt Go.RowKit Go.Abs
theorem own_Try : ownKnob Try.prog.godebug = none := by kernel_rfl
theorem laidOut_Try : laidOutB Try.prog = true := by kernel_rfl
theorem dec_t9 {H : Type} {enc : TypeId × Value → H} {w : World} (fuel : Nat) : DecAt enc Try.prog w fuel 9 eS (fun x => strok x) := dec_str (by kernel_rfl)
theorem dec_t4 {H : Type} {enc : TypeId × Value → H} {w : World} (fuel : Nat) : DecAt enc Try.prog w fuel 4 eB (fun x => True) := dec_bool (by kernel_rfl)
theorem dec_t3 {H : Type} {enc : TypeId × Value → H} {w : World} (fuel : Nat) : DecAt enc Try.prog w fuel 3 eI (fun x => i64ok x) := dec_int (by kernel_rfl)
def goodGOwner (x : GOwner) : Prop := i64ok x.fKind ∧ i64ok x.fN
theorem dec_t29 {H : Type} {enc : TypeId × Value → H} {w : World} (fuel : Nat) : DecAt enc Try.prog w fuel 29 eGOwner goodGOwner := by
  intro cs x hx
  obtain ⟨m, hm, hl, hp⟩ := dec_parts (l := [(3, 0, 1), (3, 1, 1)]) (n := 2) (by kernel_rfl) hx
  obtain ⟨_, q0⟩ := hp 0 3 0 1 rfl
  obtain ⟨y0, g0, r0⟩ := dec_t3 m _ _ q0
  obtain ⟨_, q1⟩ := hp 1 3 1 1 rfl
  obtain ⟨y1, g1, r1⟩ := dec_t3 m _ _ q1
  exact ⟨⟨y0, y1⟩, ⟨g0, g1⟩, reads0 (reads_cons (off := 0) r0 rfl (reads_cons (off := 1) r1 rfl (reads_nil hl)))⟩
theorem dec_t30 {H : Type} {enc : TypeId × Value → H} {w : World} (fuel : Nat) : DecAt enc Try.prog w fuel 30 (eA4 eGOwner) (fun x => (goodGOwner x.a0 ∧ goodGOwner x.a1 ∧ goodGOwner x.a2 ∧ goodGOwner x.a3)) := dec_arr4 (E := 29) (sz := 2) (by kernel_rfl) (fun _ => rfl) (fun n _ => dec_t29 n)
def goodGType (x : GType) : Prop := i64ok x.fKind ∧ strok x.fClass ∧ i64ok x.fN ∧ (goodGOwner x.fOwn.a0 ∧ goodGOwner x.fOwn.a1 ∧ goodGOwner x.fOwn.a2 ∧ goodGOwner x.fOwn.a3)
theorem dec_t32 {H : Type} {enc : TypeId × Value → H} {w : World} (fuel : Nat) : DecAt enc Try.prog w fuel 32 eGType goodGType := by
  intro cs x hx
  obtain ⟨m, hm, hl, hp⟩ := dec_parts (l := [(3, 0, 1), (9, 1, 1), (3, 2, 1), (30, 3, 8)]) (n := 11) (by kernel_rfl) hx
  obtain ⟨_, q0⟩ := hp 0 3 0 1 rfl
  obtain ⟨y0, g0, r0⟩ := dec_t3 m _ _ q0
  obtain ⟨_, q1⟩ := hp 1 9 1 1 rfl
  obtain ⟨y1, g1, r1⟩ := dec_t9 m _ _ q1
  obtain ⟨_, q2⟩ := hp 2 3 2 1 rfl
  obtain ⟨y2, g2, r2⟩ := dec_t3 m _ _ q2
  obtain ⟨_, q3⟩ := hp 3 30 3 8 rfl
  obtain ⟨y3, g3, r3⟩ := dec_t30 m _ _ q3
  exact ⟨⟨y0, y1, y2, y3⟩, ⟨g0, g1, g2, g3⟩, reads0 (reads_cons (off := 0) r0 rfl (reads_cons (off := 1) r1 rfl (reads_cons (off := 2) r2 rfl (reads_cons (off := 3) r3 rfl (reads_nil hl)))))⟩
def goodGVar (x : GVar) : Prop := strok x.fName ∧ goodGType x.fType ∧ i64ok x.fAt
theorem dec_t44 {H : Type} {enc : TypeId × Value → H} {w : World} (fuel : Nat) : DecAt enc Try.prog w fuel 44 eGVar goodGVar := by
  intro cs x hx
  obtain ⟨m, hm, hl, hp⟩ := dec_parts (l := [(9, 0, 1), (32, 1, 11), (3, 12, 1)]) (n := 13) (by kernel_rfl) hx
  obtain ⟨_, q0⟩ := hp 0 9 0 1 rfl
  obtain ⟨y0, g0, r0⟩ := dec_t9 m _ _ q0
  obtain ⟨_, q1⟩ := hp 1 32 1 11 rfl
  obtain ⟨y1, g1, r1⟩ := dec_t32 m _ _ q1
  obtain ⟨_, q2⟩ := hp 2 3 12 1 rfl
  obtain ⟨y2, g2, r2⟩ := dec_t3 m _ _ q2
  exact ⟨⟨y0, y1, y2⟩, ⟨g0, g1, g2⟩, reads0 (reads_cons (off := 0) r0 rfl (reads_cons (off := 1) r1 rfl (reads_cons (off := 12) r2 rfl (reads_nil hl))))⟩
theorem dec_t24 {H : Type} {enc : TypeId × Value → H} {w : World} (fuel : Nat) : DecAt enc Try.prog w fuel 24 (eL 13 eGVar) (fun x => listok (fun y => goodGVar y) x) := dec_slice (E := 44) (by kernel_rfl) (by kernel_rfl) rfl (fun _ => rfl) (fun n _ => dec_t44 n)
inductive goodGExpr : GExpr → Prop
  | mk (x : GExpr) (h0 : i64ok x.fKind) (h1 : i64ok x.fNum) (h2 : strok x.fName) (l3 : x.fKids.length ≤ maxLen) (k3 : ∀ y ∈ x.fKids, goodGExpr y) : goodGExpr x
theorem dec_t51 {H : Type} {enc : TypeId × Value → H} {w : World} (fuel : Nat) : DecAt enc Try.prog w fuel 51 eGExpr goodGExpr := by
  induction fuel using Nat.strongRecOn with
  | _ fuel ih =>
  intro cs x hx
  obtain ⟨m, hm, hl, hp⟩ := dec_parts (l := [(3, 0, 1), (3, 1, 1), (9, 2, 1), (49, 3, 1)]) (n := 4) (by kernel_rfl) hx
  obtain ⟨_, q0⟩ := hp 0 3 0 1 rfl
  obtain ⟨y0, g0, r0⟩ := dec_t3 m _ _ q0
  obtain ⟨_, q1⟩ := hp 1 3 1 1 rfl
  obtain ⟨y1, g1, r1⟩ := dec_t3 m _ _ q1
  obtain ⟨_, q2⟩ := hp 2 9 2 1 rfl
  obtain ⟨y2, g2, r2⟩ := dec_t9 m _ _ q2
  obtain ⟨_, q3⟩ := hp 3 49 3 1 rfl
  obtain ⟨y3, g3, r3⟩ := (dec_slice (P := Try.prog) (enc := enc) (w := w) (fuel := m) (T := 49) (E := 51) (sz := 4) (e := eGExpr) (good := goodGExpr) (by kernel_rfl) (by kernel_rfl) rfl (fun _ => rfl) (fun k hk => ih k (by omega))) _ _ q3
  exact ⟨⟨y0, y1, y2, y3⟩, .mk _ g0 g1 g2 g3.1 g3.2, reads0 (reads_cons (off := 0) r0 rfl (reads_cons (off := 1) r1 rfl (reads_cons (off := 2) r2 rfl (reads_cons (off := 3) (vsR eLGExpr_map r3) rfl (reads_nil hl)))))⟩
theorem dec_t49 {H : Type} {enc : TypeId × Value → H} {w : World} (fuel : Nat) : DecAt enc Try.prog w fuel 49 (eL 4 eGExpr) (fun x => listok (fun y => goodGExpr y) x) := dec_slice (E := 51) (by kernel_rfl) (by kernel_rfl) rfl (fun _ => rfl) (fun n _ => dec_t51 n)
inductive goodGStmt : GStmt → Prop
  | mk (x : GStmt) (h0 : i64ok x.fKind) (h1 : strok x.fX) (h2 : strok x.fY) (h3 : strok x.fName) (h4 : goodGType x.fType) (h5 : goodGExpr x.fE) (h6 : listok (fun y => goodGExpr y) x.fArgs) (l7 : x.fBody.length ≤ maxLen) (k7 : ∀ y ∈ x.fBody, goodGStmt y) (l8 : x.fElse.length ≤ maxLen) (k8 : ∀ y ∈ x.fElse, goodGStmt y) (h9 : i64ok x.fAt) : goodGStmt x
theorem dec_t53 {H : Type} {enc : TypeId × Value → H} {w : World} (fuel : Nat) : DecAt enc Try.prog w fuel 53 eGStmt goodGStmt := by
  induction fuel using Nat.strongRecOn with
  | _ fuel ih =>
  intro cs x hx
  obtain ⟨m, hm, hl, hp⟩ := dec_parts (l := [(3, 0, 1), (9, 1, 1), (9, 2, 1), (9, 3, 1), (32, 4, 11), (51, 15, 4), (49, 19, 1), (33, 20, 1), (33, 21, 1), (3, 22, 1)]) (n := 23) (by kernel_rfl) hx
  obtain ⟨_, q0⟩ := hp 0 3 0 1 rfl
  obtain ⟨y0, g0, r0⟩ := dec_t3 m _ _ q0
  obtain ⟨_, q1⟩ := hp 1 9 1 1 rfl
  obtain ⟨y1, g1, r1⟩ := dec_t9 m _ _ q1
  obtain ⟨_, q2⟩ := hp 2 9 2 1 rfl
  obtain ⟨y2, g2, r2⟩ := dec_t9 m _ _ q2
  obtain ⟨_, q3⟩ := hp 3 9 3 1 rfl
  obtain ⟨y3, g3, r3⟩ := dec_t9 m _ _ q3
  obtain ⟨_, q4⟩ := hp 4 32 4 11 rfl
  obtain ⟨y4, g4, r4⟩ := dec_t32 m _ _ q4
  obtain ⟨_, q5⟩ := hp 5 51 15 4 rfl
  obtain ⟨y5, g5, r5⟩ := dec_t51 m _ _ q5
  obtain ⟨_, q6⟩ := hp 6 49 19 1 rfl
  obtain ⟨y6, g6, r6⟩ := dec_t49 m _ _ q6
  obtain ⟨_, q7⟩ := hp 7 33 20 1 rfl
  obtain ⟨y7, g7, r7⟩ := (dec_slice (P := Try.prog) (enc := enc) (w := w) (fuel := m) (T := 33) (E := 53) (sz := 23) (e := eGStmt) (good := goodGStmt) (by kernel_rfl) (by kernel_rfl) rfl (fun _ => rfl) (fun k hk => ih k (by omega))) _ _ q7
  obtain ⟨_, q8⟩ := hp 8 33 21 1 rfl
  obtain ⟨y8, g8, r8⟩ := (dec_slice (P := Try.prog) (enc := enc) (w := w) (fuel := m) (T := 33) (E := 53) (sz := 23) (e := eGStmt) (good := goodGStmt) (by kernel_rfl) (by kernel_rfl) rfl (fun _ => rfl) (fun k hk => ih k (by omega))) _ _ q8
  obtain ⟨_, q9⟩ := hp 9 3 22 1 rfl
  obtain ⟨y9, g9, r9⟩ := dec_t3 m _ _ q9
  exact ⟨⟨y0, y1, y2, y3, y4, y5, y6, y7, y8, y9⟩, .mk _ g0 g1 g2 g3 g4 g5 g6 g7.1 g7.2 g8.1 g8.2 g9, reads0 (reads_cons (off := 0) r0 rfl (reads_cons (off := 1) r1 rfl (reads_cons (off := 2) r2 rfl (reads_cons (off := 3) r3 rfl (reads_cons (off := 4) r4 rfl (reads_cons (off := 15) r5 rfl (reads_cons (off := 19) (vsR eLGExpr_map r6) rfl (reads_cons (off := 20) (vsR eLGStmt_map r7) rfl (reads_cons (off := 21) (vsR eLGStmt_map r8) rfl (reads_cons (off := 22) r9 rfl (reads_nil hl)))))))))))⟩
theorem dec_t33 {H : Type} {enc : TypeId × Value → H} {w : World} (fuel : Nat) : DecAt enc Try.prog w fuel 33 (eL 23 eGStmt) (fun x => listok (fun y => goodGStmt y) x) := dec_slice (E := 53) (by kernel_rfl) (by kernel_rfl) rfl (fun _ => rfl) (fun n _ => dec_t53 n)
def goodGMethod (x : GMethod) : Prop := strok x.fName ∧ True ∧ goodGType x.fRet ∧ listok (fun y => goodGVar y) x.fParams ∧ listok (fun y => goodGVar y) x.fLocals ∧ listok (fun y => goodGStmt y) x.fBody ∧ i64ok x.fAt
theorem dec_t35 {H : Type} {enc : TypeId × Value → H} {w : World} (fuel : Nat) : DecAt enc Try.prog w fuel 35 eGMethod goodGMethod := by
  intro cs x hx
  obtain ⟨m, hm, hl, hp⟩ := dec_parts (l := [(9, 0, 1), (4, 1, 1), (32, 2, 11), (24, 13, 1), (24, 14, 1), (33, 15, 1), (3, 16, 1)]) (n := 17) (by kernel_rfl) hx
  obtain ⟨_, q0⟩ := hp 0 9 0 1 rfl
  obtain ⟨y0, g0, r0⟩ := dec_t9 m _ _ q0
  obtain ⟨_, q1⟩ := hp 1 4 1 1 rfl
  obtain ⟨y1, g1, r1⟩ := dec_t4 m _ _ q1
  obtain ⟨_, q2⟩ := hp 2 32 2 11 rfl
  obtain ⟨y2, g2, r2⟩ := dec_t32 m _ _ q2
  obtain ⟨_, q3⟩ := hp 3 24 13 1 rfl
  obtain ⟨y3, g3, r3⟩ := dec_t24 m _ _ q3
  obtain ⟨_, q4⟩ := hp 4 24 14 1 rfl
  obtain ⟨y4, g4, r4⟩ := dec_t24 m _ _ q4
  obtain ⟨_, q5⟩ := hp 5 33 15 1 rfl
  obtain ⟨y5, g5, r5⟩ := dec_t33 m _ _ q5
  obtain ⟨_, q6⟩ := hp 6 3 16 1 rfl
  obtain ⟨y6, g6, r6⟩ := dec_t3 m _ _ q6
  exact ⟨⟨y0, y1, y2, y3, y4, y5, y6⟩, ⟨g0, g1, g2, g3, g4, g5, g6⟩, reads0 (reads_cons (off := 0) r0 rfl (reads_cons (off := 1) r1 rfl (reads_cons (off := 2) r2 rfl (reads_cons (off := 13) r3 rfl (reads_cons (off := 14) r4 rfl (reads_cons (off := 15) (vsR eLGStmt_map r5) rfl (reads_cons (off := 16) r6 rfl (reads_nil hl))))))))⟩
end Go.Proofs.Ytiblofbgibjobaa
