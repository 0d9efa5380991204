/- A part of the proof that the law DotDeep gives true for every input. -/
import Derived.Test.YthhdlpggmmfaiaaGreatDotDeepA4
import Derived.Test.YthhdlpggmmfaiaaGreatDotDeepT
import Derived.Test.YthhdlpggmmfaiaaGreatProg
namespace Go.Proofs.YthhdlpggmmfaiaaGreat
open Go.ChangeShapes Go.WideShapes Go.ChangeAt Go.RowKit Go.Abs
theorem own_Tryz : ownKnob Tryz.prog.godebug = none := by kernel_rfl
theorem laidOut_Tryz : laidOutB Tryz.prog = true := by kernel_rfl
theorem dec_t9 {H : Type} {K : Bk H} {enc : TypeId × Value → H} {w : World} (fuel : Nat) : DecU K enc Tryz.prog w fuel 9 eS (fun x => strok x) (fun s => List.length s + 1) := decU_str (by kernel_rfl)
theorem dec_t23 {H : Type} {K : Bk H} {enc : TypeId × Value → H} {w : World} (fuel : Nat) : DecU K enc Tryz.prog w fuel 23 (eL 1 eS) (fun x => listok (fun y => strok y) x) (fun l => lsum (fun s => List.length s + 1) l + 1) := decU_slice (E := 9) (by kernel_rfl) (by kernel_rfl) rfl (fun _ => rfl) (fun n _ => dec_t9 n)
theorem dec_t3 {H : Type} {K : Bk H} {enc : TypeId × Value → H} {w : World} (fuel : Nat) : DecU K enc Tryz.prog w fuel 3 eI (fun x => i64ok x) (fun _ => 1) := decU_int (by kernel_rfl)
def goodGOwner (x : GOwner) : Prop := i64ok x.fKind ∧ i64ok x.fN
def uGOwner (x : GOwner) : Nat := 1 + (1 + (0)) + 1
theorem dec_t34 {H : Type} {K : Bk H} {enc : TypeId × Value → H} {w : World} (fuel : Nat) : DecU K enc Tryz.prog w fuel 34 eGOwner goodGOwner uGOwner := by
  intro cs x hx
  obtain ⟨m, xs, hm, hl, hd, hxl, hp⟩ := decU_parts (l := [(3, 0, 1), (3, 1, 1)]) (n := 2) (by kernel_rfl) hx
  obtain ⟨w0, v0, q0⟩ := hp 0 3 0 1 rfl
  obtain ⟨y0, g0, b0, r0⟩ := dec_t3 m _ _ q0
  obtain ⟨w1, v1, q1⟩ := hp 1 3 1 1 rfl
  obtain ⟨y1, g1, b1, r1⟩ := dec_t3 m _ _ q1
  exact ⟨⟨y0, y1⟩, ⟨g0, g1⟩, agg_ns [1, 1] hd hxl rfl ⟨⟨w0, v0, b0⟩, ⟨w1, v1, b1⟩, trivial⟩, reads0 (reads_cons (off := 0) r0 rfl (reads_cons (off := 1) r1 rfl (reads_nil hl)))⟩
theorem dec_t28 {H : Type} {K : Bk H} {enc : TypeId × Value → H} {w : World} (fuel : Nat) : DecU K enc Tryz.prog w fuel 28 (eL 2 eGOwner) (fun x => listok (fun y => goodGOwner y) x) (fun l => lsum uGOwner l + 1) := decU_slice (E := 34) (by kernel_rfl) (by kernel_rfl) rfl (fun _ => rfl) (fun n _ => dec_t34 n)
theorem dec_t35 {H : Type} {K : Bk H} {enc : TypeId × Value → H} {w : World} (fuel : Nat) : DecU K enc Tryz.prog w fuel 35 (eA4 eGOwner) (fun x => (goodGOwner x.a0 ∧ goodGOwner x.a1 ∧ goodGOwner x.a2 ∧ goodGOwner x.a3)) (fun x => uGOwner x.a0 + (uGOwner x.a1 + (uGOwner x.a2 + (uGOwner x.a3 + 0))) + 1) := decU_arr4 (E := 34) (sz := 2) (by kernel_rfl) (fun _ => rfl) (fun n _ => dec_t34 n)
def goodGType (x : GType) : Prop := i64ok x.fKind ∧ strok x.fClass ∧ i64ok x.fN ∧ (goodGOwner x.fOwn.a0 ∧ goodGOwner x.fOwn.a1 ∧ goodGOwner x.fOwn.a2 ∧ goodGOwner x.fOwn.a3)
def uGType (x : GType) : Nat := 1 + ((List.length x.fClass + 1) + (1 + ((uGOwner x.fOwn.a0 + (uGOwner x.fOwn.a1 + (uGOwner x.fOwn.a2 + (uGOwner x.fOwn.a3 + (0)))) + 1) + (0)))) + 1
theorem dec_t37 {H : Type} {K : Bk H} {enc : TypeId × Value → H} {w : World} (fuel : Nat) : DecU K enc Tryz.prog w fuel 37 eGType goodGType uGType := by
  intro cs x hx
  obtain ⟨m, xs, hm, hl, hd, hxl, hp⟩ := decU_parts (l := [(3, 0, 1), (9, 1, 1), (3, 2, 1), (35, 3, 8)]) (n := 11) (by kernel_rfl) hx
  obtain ⟨w0, v0, q0⟩ := hp 0 3 0 1 rfl
  obtain ⟨y0, g0, b0, r0⟩ := dec_t3 m _ _ q0
  obtain ⟨w1, v1, q1⟩ := hp 1 9 1 1 rfl
  obtain ⟨y1, g1, b1, r1⟩ := dec_t9 m _ _ q1
  obtain ⟨w2, v2, q2⟩ := hp 2 3 2 1 rfl
  obtain ⟨y2, g2, b2, r2⟩ := dec_t3 m _ _ q2
  obtain ⟨w3, v3, q3⟩ := hp 3 35 3 8 rfl
  obtain ⟨y3, g3, b3, r3⟩ := dec_t35 m _ _ q3
  exact ⟨⟨y0, y1, y2, y3⟩, ⟨g0, g1, g2, g3⟩, agg_ns [1, (List.length y1 + 1), 1, (uGOwner y3.a0 + (uGOwner y3.a1 + (uGOwner y3.a2 + (uGOwner y3.a3 + (0)))) + 1)] hd hxl rfl ⟨⟨w0, v0, b0⟩, ⟨w1, v1, b1⟩, ⟨w2, v2, b2⟩, ⟨w3, v3, b3⟩, trivial⟩, reads0 (reads_cons (off := 0) r0 rfl (reads_cons (off := 1) r1 rfl (reads_cons (off := 2) r2 rfl (reads_cons (off := 3) r3 rfl (reads_nil hl)))))⟩
def goodGVar (x : GVar) : Prop := strok x.fName ∧ goodGType x.fType ∧ i64ok x.fAt
def uGVar (x : GVar) : Nat := (List.length x.fName + 1) + (uGType x.fType + (1 + (0))) + 1
theorem dec_t66 {H : Type} {K : Bk H} {enc : TypeId × Value → H} {w : World} (fuel : Nat) : DecU K enc Tryz.prog w fuel 66 eGVar goodGVar uGVar := by
  intro cs x hx
  obtain ⟨m, xs, hm, hl, hd, hxl, hp⟩ := decU_parts (l := [(9, 0, 1), (37, 1, 11), (3, 12, 1)]) (n := 13) (by kernel_rfl) hx
  obtain ⟨w0, v0, q0⟩ := hp 0 9 0 1 rfl
  obtain ⟨y0, g0, b0, r0⟩ := dec_t9 m _ _ q0
  obtain ⟨w1, v1, q1⟩ := hp 1 37 1 11 rfl
  obtain ⟨y1, g1, b1, r1⟩ := dec_t37 m _ _ q1
  obtain ⟨w2, v2, q2⟩ := hp 2 3 12 1 rfl
  obtain ⟨y2, g2, b2, r2⟩ := dec_t3 m _ _ q2
  exact ⟨⟨y0, y1, y2⟩, ⟨g0, g1, g2⟩, agg_ns [(List.length y0 + 1), uGType y1, 1] hd hxl rfl ⟨⟨w0, v0, b0⟩, ⟨w1, v1, b1⟩, ⟨w2, v2, b2⟩, trivial⟩, reads0 (reads_cons (off := 0) r0 rfl (reads_cons (off := 1) r1 rfl (reads_cons (off := 12) r2 rfl (reads_nil hl))))⟩
theorem dec_t29 {H : Type} {K : Bk H} {enc : TypeId × Value → H} {w : World} (fuel : Nat) : DecU K enc Tryz.prog w fuel 29 (eL 13 eGVar) (fun x => listok (fun y => goodGVar y) x) (fun l => lsum uGVar l + 1) := decU_slice (E := 66) (by kernel_rfl) (by kernel_rfl) rfl (fun _ => rfl) (fun n _ => dec_t66 n)
theorem dec_t4 {H : Type} {K : Bk H} {enc : TypeId × Value → H} {w : World} (fuel : Nat) : DecU K enc Tryz.prog w fuel 4 eB (fun x => True) (fun _ => 1) := decU_bool (by kernel_rfl)
inductive goodGExpr : GExpr → Prop
  | mk (x : GExpr) (h0 : i64ok x.fKind) (h1 : i64ok x.fNum) (h2 : strok x.fName) (l3 : x.fKids.length ≤ maxLen) (k3 : ∀ y ∈ x.fKids, goodGExpr y) : goodGExpr x
mutual
def uGExpr : GExpr → Nat
  | ⟨_, _, z2, z3⟩ => 1 + (1 + ((List.length z2 + 1) + ((uLGExpr z3 + 1) + (0)))) + 1
def uLGExpr : List GExpr → Nat
  | [] => 0
  | x :: l => uGExpr x + uLGExpr l
end
theorem uLGExpr_eq : ∀ l : List GExpr, uLGExpr l = lsum uGExpr l
  | [] => by simp only [uLGExpr, lsum]
  | x :: l => by simp only [uLGExpr, lsum, uLGExpr_eq l]
theorem uGExpr_eq (x : GExpr) : uGExpr x = 1 + (1 + ((List.length x.fName + 1) + ((lsum uGExpr x.fKids + 1) + (0)))) + 1 := by cases x; simp only [uGExpr, uLGExpr_eq]
theorem dec_t46 {H : Type} {K : Bk H} {enc : TypeId × Value → H} {w : World} (fuel : Nat) : DecU K enc Tryz.prog w fuel 46 eGExpr goodGExpr uGExpr := by
  induction fuel using Nat.strongRecOn with
  | _ fuel ih =>
  intro cs x hx
  obtain ⟨m, xs, hm, hl, hd, hxl, hp⟩ := decU_parts (l := [(3, 0, 1), (3, 1, 1), (9, 2, 1), (44, 3, 1)]) (n := 4) (by kernel_rfl) hx
  obtain ⟨w0, v0, q0⟩ := hp 0 3 0 1 rfl
  obtain ⟨y0, g0, b0, r0⟩ := dec_t3 m _ _ q0
  obtain ⟨w1, v1, q1⟩ := hp 1 3 1 1 rfl
  obtain ⟨y1, g1, b1, r1⟩ := dec_t3 m _ _ q1
  obtain ⟨w2, v2, q2⟩ := hp 2 9 2 1 rfl
  obtain ⟨y2, g2, b2, r2⟩ := dec_t9 m _ _ q2
  obtain ⟨w3, v3, q3⟩ := hp 3 44 3 1 rfl
  obtain ⟨y3, g3, b3, r3⟩ := (decU_slice (P := Tryz.prog) (enc := enc) (w := w) (fuel := m) (T := 44) (E := 46) (sz := 4) (e := eGExpr) (good := goodGExpr) (u := uGExpr) (by kernel_rfl) (by kernel_rfl) rfl (fun _ => rfl) (fun k hk => ih k (by omega))) _ _ q3
  exact ⟨⟨y0, y1, y2, y3⟩, .mk _ g0 g1 g2 g3.1 g3.2, by rw [uGExpr_eq]; exact agg_ns [1, 1, (List.length y2 + 1), (lsum uGExpr y3 + 1)] hd hxl rfl ⟨⟨w0, v0, b0⟩, ⟨w1, v1, b1⟩, ⟨w2, v2, b2⟩, ⟨w3, v3, b3⟩, trivial⟩, reads0 (reads_cons (off := 0) r0 rfl (reads_cons (off := 1) r1 rfl (reads_cons (off := 2) r2 rfl (reads_cons (off := 3) (vsR eLGExpr_map r3) rfl (reads_nil hl)))))⟩
theorem dec_t44 {H : Type} {K : Bk H} {enc : TypeId × Value → H} {w : World} (fuel : Nat) : DecU K enc Tryz.prog w fuel 44 (eL 4 eGExpr) (fun x => listok (fun y => goodGExpr y) x) (fun l => lsum uGExpr l + 1) := decU_slice (E := 46) (by kernel_rfl) (by kernel_rfl) rfl (fun _ => rfl) (fun n _ => dec_t46 n)
inductive goodGStmt : GStmt → Prop
  | mk (x : GStmt) (h0 : i64ok x.fKind) (h1 : strok x.fX) (h2 : strok x.fY) (h3 : strok x.fName) (h4 : goodGType x.fType) (h5 : goodGExpr x.fE) (h6 : listok (fun y => goodGExpr y) x.fArgs) (l7 : x.fBody.length ≤ maxLen) (k7 : ∀ y ∈ x.fBody, goodGStmt y) (l8 : x.fElse.length ≤ maxLen) (k8 : ∀ y ∈ x.fElse, goodGStmt y) (h9 : i64ok x.fAt) : goodGStmt x
mutual
def uGStmt : GStmt → Nat
  | ⟨_, z1, z2, z3, z4, z5, z6, z7, z8, _⟩ => 1 + ((List.length z1 + 1) + ((List.length z2 + 1) + ((List.length z3 + 1) + (uGType z4 + (uGExpr z5 + ((lsum uGExpr z6 + 1) + ((uLGStmt z7 + 1) + ((uLGStmt z8 + 1) + (1 + (0)))))))))) + 1
def uLGStmt : List GStmt → Nat
  | [] => 0
  | x :: l => uGStmt x + uLGStmt l
end
theorem uLGStmt_eq : ∀ l : List GStmt, uLGStmt l = lsum uGStmt l
  | [] => by simp only [uLGStmt, lsum]
  | x :: l => by simp only [uLGStmt, lsum, uLGStmt_eq l]
theorem uGStmt_eq (x : GStmt) : uGStmt x = 1 + ((List.length x.fX + 1) + ((List.length x.fY + 1) + ((List.length x.fName + 1) + (uGType x.fType + (uGExpr x.fE + ((lsum uGExpr x.fArgs + 1) + ((lsum uGStmt x.fBody + 1) + ((lsum uGStmt x.fElse + 1) + (1 + (0)))))))))) + 1 := by cases x; simp only [uGStmt, uLGStmt_eq]
theorem dec_t48 {H : Type} {K : Bk H} {enc : TypeId × Value → H} {w : World} (fuel : Nat) : DecU K enc Tryz.prog w fuel 48 eGStmt goodGStmt uGStmt := by
  induction fuel using Nat.strongRecOn with
  | _ fuel ih =>
  intro cs x hx
  obtain ⟨m, xs, hm, hl, hd, hxl, hp⟩ := decU_parts (l := [(3, 0, 1), (9, 1, 1), (9, 2, 1), (9, 3, 1), (37, 4, 11), (46, 15, 4), (44, 19, 1), (38, 20, 1), (38, 21, 1), (3, 22, 1)]) (n := 23) (by kernel_rfl) hx
  obtain ⟨w0, v0, q0⟩ := hp 0 3 0 1 rfl
  obtain ⟨y0, g0, b0, r0⟩ := dec_t3 m _ _ q0
  obtain ⟨w1, v1, q1⟩ := hp 1 9 1 1 rfl
  obtain ⟨y1, g1, b1, r1⟩ := dec_t9 m _ _ q1
  obtain ⟨w2, v2, q2⟩ := hp 2 9 2 1 rfl
  obtain ⟨y2, g2, b2, r2⟩ := dec_t9 m _ _ q2
  obtain ⟨w3, v3, q3⟩ := hp 3 9 3 1 rfl
  obtain ⟨y3, g3, b3, r3⟩ := dec_t9 m _ _ q3
  obtain ⟨w4, v4, q4⟩ := hp 4 37 4 11 rfl
  obtain ⟨y4, g4, b4, r4⟩ := dec_t37 m _ _ q4
  obtain ⟨w5, v5, q5⟩ := hp 5 46 15 4 rfl
  obtain ⟨y5, g5, b5, r5⟩ := dec_t46 m _ _ q5
  obtain ⟨w6, v6, q6⟩ := hp 6 44 19 1 rfl
  obtain ⟨y6, g6, b6, r6⟩ := dec_t44 m _ _ q6
  obtain ⟨w7, v7, q7⟩ := hp 7 38 20 1 rfl
  obtain ⟨y7, g7, b7, r7⟩ := (decU_slice (P := Tryz.prog) (enc := enc) (w := w) (fuel := m) (T := 38) (E := 48) (sz := 23) (e := eGStmt) (good := goodGStmt) (u := uGStmt) (by kernel_rfl) (by kernel_rfl) rfl (fun _ => rfl) (fun k hk => ih k (by omega))) _ _ q7
  obtain ⟨w8, v8, q8⟩ := hp 8 38 21 1 rfl
  obtain ⟨y8, g8, b8, r8⟩ := (decU_slice (P := Tryz.prog) (enc := enc) (w := w) (fuel := m) (T := 38) (E := 48) (sz := 23) (e := eGStmt) (good := goodGStmt) (u := uGStmt) (by kernel_rfl) (by kernel_rfl) rfl (fun _ => rfl) (fun k hk => ih k (by omega))) _ _ q8
  obtain ⟨w9, v9, q9⟩ := hp 9 3 22 1 rfl
  obtain ⟨y9, g9, b9, r9⟩ := dec_t3 m _ _ q9
  exact ⟨⟨y0, y1, y2, y3, y4, y5, y6, y7, y8, y9⟩, .mk _ g0 g1 g2 g3 g4 g5 g6 g7.1 g7.2 g8.1 g8.2 g9, by rw [uGStmt_eq]; exact agg_ns [1, (List.length y1 + 1), (List.length y2 + 1), (List.length y3 + 1), uGType y4, uGExpr y5, (lsum uGExpr y6 + 1), (lsum uGStmt y7 + 1), (lsum uGStmt y8 + 1), 1] hd hxl rfl ⟨⟨w0, v0, b0⟩, ⟨w1, v1, b1⟩, ⟨w2, v2, b2⟩, ⟨w3, v3, b3⟩, ⟨w4, v4, b4⟩, ⟨w5, v5, b5⟩, ⟨w6, v6, b6⟩, ⟨w7, v7, b7⟩, ⟨w8, v8, b8⟩, ⟨w9, v9, b9⟩, trivial⟩, reads0 (reads_cons (off := 0) r0 rfl (reads_cons (off := 1) r1 rfl (reads_cons (off := 2) r2 rfl (reads_cons (off := 3) r3 rfl (reads_cons (off := 4) r4 rfl (reads_cons (off := 15) r5 rfl (reads_cons (off := 19) (vsR eLGExpr_map r6) rfl (reads_cons (off := 20) (vsR eLGStmt_map r7) rfl (reads_cons (off := 21) (vsR eLGStmt_map r8) rfl (reads_cons (off := 22) r9 rfl (reads_nil hl)))))))))))⟩
theorem dec_t38 {H : Type} {K : Bk H} {enc : TypeId × Value → H} {w : World} (fuel : Nat) : DecU K enc Tryz.prog w fuel 38 (eL 23 eGStmt) (fun x => listok (fun y => goodGStmt y) x) (fun l => lsum uGStmt l + 1) := decU_slice (E := 48) (by kernel_rfl) (by kernel_rfl) rfl (fun _ => rfl) (fun n _ => dec_t48 n)
def goodGMethod (x : GMethod) : Prop := strok x.fName ∧ True ∧ goodGType x.fRet ∧ listok (fun y => goodGVar y) x.fParams ∧ listok (fun y => goodGVar y) x.fLocals ∧ listok (fun y => goodGStmt y) x.fBody ∧ i64ok x.fAt
def uGMethod (x : GMethod) : Nat := (List.length x.fName + 1) + (1 + (uGType x.fRet + ((lsum uGVar x.fParams + 1) + ((lsum uGVar x.fLocals + 1) + ((lsum uGStmt x.fBody + 1) + (1 + (0))))))) + 1
theorem dec_t40 {H : Type} {K : Bk H} {enc : TypeId × Value → H} {w : World} (fuel : Nat) : DecU K enc Tryz.prog w fuel 40 eGMethod goodGMethod uGMethod := by
  intro cs x hx
  obtain ⟨m, xs, hm, hl, hd, hxl, hp⟩ := decU_parts (l := [(9, 0, 1), (4, 1, 1), (37, 2, 11), (29, 13, 1), (29, 14, 1), (38, 15, 1), (3, 16, 1)]) (n := 17) (by kernel_rfl) hx
  obtain ⟨w0, v0, q0⟩ := hp 0 9 0 1 rfl
  obtain ⟨y0, g0, b0, r0⟩ := dec_t9 m _ _ q0
  obtain ⟨w1, v1, q1⟩ := hp 1 4 1 1 rfl
  obtain ⟨y1, g1, b1, r1⟩ := dec_t4 m _ _ q1
  obtain ⟨w2, v2, q2⟩ := hp 2 37 2 11 rfl
  obtain ⟨y2, g2, b2, r2⟩ := dec_t37 m _ _ q2
  obtain ⟨w3, v3, q3⟩ := hp 3 29 13 1 rfl
  obtain ⟨y3, g3, b3, r3⟩ := dec_t29 m _ _ q3
  obtain ⟨w4, v4, q4⟩ := hp 4 29 14 1 rfl
  obtain ⟨y4, g4, b4, r4⟩ := dec_t29 m _ _ q4
  obtain ⟨w5, v5, q5⟩ := hp 5 38 15 1 rfl
  obtain ⟨y5, g5, b5, r5⟩ := dec_t38 m _ _ q5
  obtain ⟨w6, v6, q6⟩ := hp 6 3 16 1 rfl
  obtain ⟨y6, g6, b6, r6⟩ := dec_t3 m _ _ q6
  exact ⟨⟨y0, y1, y2, y3, y4, y5, y6⟩, ⟨g0, g1, g2, g3, g4, g5, g6⟩, agg_ns [(List.length y0 + 1), 1, uGType y2, (lsum uGVar y3 + 1), (lsum uGVar y4 + 1), (lsum uGStmt y5 + 1), 1] hd hxl rfl ⟨⟨w0, v0, b0⟩, ⟨w1, v1, b1⟩, ⟨w2, v2, b2⟩, ⟨w3, v3, b3⟩, ⟨w4, v4, b4⟩, ⟨w5, v5, b5⟩, ⟨w6, v6, b6⟩, trivial⟩, reads0 (reads_cons (off := 0) r0 rfl (reads_cons (off := 1) r1 rfl (reads_cons (off := 2) r2 rfl (reads_cons (off := 13) r3 rfl (reads_cons (off := 14) r4 rfl (reads_cons (off := 15) (vsR eLGStmt_map r5) rfl (reads_cons (off := 16) r6 rfl (reads_nil hl))))))))⟩
theorem dec_t30 {H : Type} {K : Bk H} {enc : TypeId × Value → H} {w : World} (fuel : Nat) : DecU K enc Tryz.prog w fuel 30 (eL 17 eGMethod) (fun x => listok (fun y => goodGMethod y) x) (fun l => lsum uGMethod l + 1) := decU_slice (E := 40) (by kernel_rfl) (by kernel_rfl) rfl (fun _ => rfl) (fun n _ => dec_t40 n)
def goodGClass (x : GClass) : Prop := strok x.fName ∧ listok (fun y => strok y) x.fParams ∧ strok x.fSuper ∧ listok (fun y => goodGOwner y) x.fAbove ∧ listok (fun y => goodGVar y) x.fFields ∧ listok (fun y => goodGMethod y) x.fMethods ∧ i64ok x.fAt
def uGClass (x : GClass) : Nat := (List.length x.fName + 1) + ((lsum (fun s => List.length s + 1) x.fParams + 1) + ((List.length x.fSuper + 1) + ((lsum uGOwner x.fAbove + 1) + ((lsum uGVar x.fFields + 1) + ((lsum uGMethod x.fMethods + 1) + (1 + (0))))))) + 1
theorem dec_t32 {H : Type} {K : Bk H} {enc : TypeId × Value → H} {w : World} (fuel : Nat) : DecU K enc Tryz.prog w fuel 32 eGClass goodGClass uGClass := by
  intro cs x hx
  obtain ⟨m, xs, hm, hl, hd, hxl, hp⟩ := decU_parts (l := [(9, 0, 1), (23, 1, 1), (9, 2, 1), (28, 3, 1), (29, 4, 1), (30, 5, 1), (3, 6, 1)]) (n := 7) (by kernel_rfl) hx
  obtain ⟨w0, v0, q0⟩ := hp 0 9 0 1 rfl
  obtain ⟨y0, g0, b0, r0⟩ := dec_t9 m _ _ q0
  obtain ⟨w1, v1, q1⟩ := hp 1 23 1 1 rfl
  obtain ⟨y1, g1, b1, r1⟩ := dec_t23 m _ _ q1
  obtain ⟨w2, v2, q2⟩ := hp 2 9 2 1 rfl
  obtain ⟨y2, g2, b2, r2⟩ := dec_t9 m _ _ q2
  obtain ⟨w3, v3, q3⟩ := hp 3 28 3 1 rfl
  obtain ⟨y3, g3, b3, r3⟩ := dec_t28 m _ _ q3
  obtain ⟨w4, v4, q4⟩ := hp 4 29 4 1 rfl
  obtain ⟨y4, g4, b4, r4⟩ := dec_t29 m _ _ q4
  obtain ⟨w5, v5, q5⟩ := hp 5 30 5 1 rfl
  obtain ⟨y5, g5, b5, r5⟩ := dec_t30 m _ _ q5
  obtain ⟨w6, v6, q6⟩ := hp 6 3 6 1 rfl
  obtain ⟨y6, g6, b6, r6⟩ := dec_t3 m _ _ q6
  exact ⟨⟨y0, y1, y2, y3, y4, y5, y6⟩, ⟨g0, g1, g2, g3, g4, g5, g6⟩, agg_ns [(List.length y0 + 1), (lsum (fun s => List.length s + 1) y1 + 1), (List.length y2 + 1), (lsum uGOwner y3 + 1), (lsum uGVar y4 + 1), (lsum uGMethod y5 + 1), 1] hd hxl rfl ⟨⟨w0, v0, b0⟩, ⟨w1, v1, b1⟩, ⟨w2, v2, b2⟩, ⟨w3, v3, b3⟩, ⟨w4, v4, b4⟩, ⟨w5, v5, b5⟩, ⟨w6, v6, b6⟩, trivial⟩, reads0 (reads_cons (off := 0) r0 rfl (reads_cons (off := 1) r1 rfl (reads_cons (off := 2) r2 rfl (reads_cons (off := 3) r3 rfl (reads_cons (off := 4) r4 rfl (reads_cons (off := 5) r5 rfl (reads_cons (off := 6) r6 rfl (reads_nil hl))))))))⟩
theorem dec_t22 {H : Type} {K : Bk H} {enc : TypeId × Value → H} {w : World} (fuel : Nat) : DecU K enc Tryz.prog w fuel 22 (eL 7 eGClass) (fun x => listok (fun y => goodGClass y) x) (fun l => lsum uGClass l + 1) := decU_slice (E := 32) (by kernel_rfl) (by kernel_rfl) rfl (fun _ => rfl) (fun n _ => dec_t32 n)
theorem dec_t61 {H : Type} {K : Bk H} {enc : TypeId × Value → H} {w : World} (fuel : Nat) : DecU K enc Tryz.prog w fuel 61 (eA4 eI) (fun x => (i64ok x.a0 ∧ i64ok x.a1 ∧ i64ok x.a2 ∧ i64ok x.a3)) (fun x => (fun _ => 1) x.a0 + ((fun _ => 1) x.a1 + ((fun _ => 1) x.a2 + ((fun _ => 1) x.a3 + 0))) + 1) := decU_arr4 (E := 3) (sz := 1) (by kernel_rfl) (fun _ => rfl) (fun n _ => dec_t3 n)
def goodGVal (x : GVal) : Prop := True ∧ i64ok x.fN
def uGVal (x : GVal) : Nat := 1 + (1 + (0)) + 1
theorem dec_t107 {H : Type} {K : Bk H} {enc : TypeId × Value → H} {w : World} (fuel : Nat) : DecU K enc Tryz.prog w fuel 107 eGVal goodGVal uGVal := by
  intro cs x hx
  obtain ⟨m, xs, hm, hl, hd, hxl, hp⟩ := decU_parts (l := [(4, 0, 1), (3, 1, 1)]) (n := 2) (by kernel_rfl) hx
  obtain ⟨w0, v0, q0⟩ := hp 0 4 0 1 rfl
  obtain ⟨y0, g0, b0, r0⟩ := dec_t4 m _ _ q0
  obtain ⟨w1, v1, q1⟩ := hp 1 3 1 1 rfl
  obtain ⟨y1, g1, b1, r1⟩ := dec_t3 m _ _ q1
  exact ⟨⟨y0, y1⟩, ⟨g0, g1⟩, agg_ns [1, 1] hd hxl rfl ⟨⟨w0, v0, b0⟩, ⟨w1, v1, b1⟩, trivial⟩, reads0 (reads_cons (off := 0) r0 rfl (reads_cons (off := 1) r1 rfl (reads_nil hl)))⟩
theorem dec_t62 {H : Type} {K : Bk H} {enc : TypeId × Value → H} {w : World} (fuel : Nat) : DecU K enc Tryz.prog w fuel 62 (eL 2 eGVal) (fun x => listok (fun y => goodGVal y) x) (fun l => lsum uGVal l + 1) := decU_slice (E := 107) (by kernel_rfl) (by kernel_rfl) rfl (fun _ => rfl) (fun n _ => dec_t107 n)
def goodGCell (x : GCell) : Prop := strok x.fClass ∧ (i64ok x.fOwn.a0 ∧ i64ok x.fOwn.a1 ∧ i64ok x.fOwn.a2 ∧ i64ok x.fOwn.a3) ∧ listok (fun y => goodGVal y) x.fFields ∧ True
def uGCell (x : GCell) : Nat := (List.length x.fClass + 1) + ((1 + (1 + (1 + (1 + (0)))) + 1) + ((lsum uGVal x.fFields + 1) + (1 + (0)))) + 1
theorem dec_t64 {H : Type} {K : Bk H} {enc : TypeId × Value → H} {w : World} (fuel : Nat) : DecU K enc Tryz.prog w fuel 64 eGCell goodGCell uGCell := by
  intro cs x hx
  obtain ⟨m, xs, hm, hl, hd, hxl, hp⟩ := decU_parts (l := [(9, 0, 1), (61, 1, 4), (62, 5, 1), (4, 6, 1)]) (n := 7) (by kernel_rfl) hx
  obtain ⟨w0, v0, q0⟩ := hp 0 9 0 1 rfl
  obtain ⟨y0, g0, b0, r0⟩ := dec_t9 m _ _ q0
  obtain ⟨w1, v1, q1⟩ := hp 1 61 1 4 rfl
  obtain ⟨y1, g1, b1, r1⟩ := dec_t61 m _ _ q1
  obtain ⟨w2, v2, q2⟩ := hp 2 62 5 1 rfl
  obtain ⟨y2, g2, b2, r2⟩ := dec_t62 m _ _ q2
  obtain ⟨w3, v3, q3⟩ := hp 3 4 6 1 rfl
  obtain ⟨y3, g3, b3, r3⟩ := dec_t4 m _ _ q3
  exact ⟨⟨y0, y1, y2, y3⟩, ⟨g0, g1, g2, g3⟩, agg_ns [(List.length y0 + 1), (1 + (1 + (1 + (1 + (0)))) + 1), (lsum uGVal y2 + 1), 1] hd hxl rfl ⟨⟨w0, v0, b0⟩, ⟨w1, v1, b1⟩, ⟨w2, v2, b2⟩, ⟨w3, v3, b3⟩, trivial⟩, reads0 (reads_cons (off := 0) r0 rfl (reads_cons (off := 1) r1 rfl (reads_cons (off := 5) r2 rfl (reads_cons (off := 6) r3 rfl (reads_nil hl)))))⟩
theorem dec_t56 {H : Type} {K : Bk H} {enc : TypeId × Value → H} {w : World} (fuel : Nat) : DecU K enc Tryz.prog w fuel 56 (eL 7 eGCell) (fun x => listok (fun y => goodGCell y) x) (fun l => lsum uGCell l + 1) := decU_slice (E := 64) (by kernel_rfl) (by kernel_rfl) rfl (fun _ => rfl) (fun n _ => dec_t64 n)
end Go.Proofs.YthhdlpggmmfaiaaGreat
