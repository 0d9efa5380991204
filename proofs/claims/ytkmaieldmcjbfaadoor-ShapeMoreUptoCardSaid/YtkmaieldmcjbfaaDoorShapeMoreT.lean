/- A part of the proof that the law ShapeMore gives true for every input. -/
import Derived.Test.YtkmaieldmcjbfaaDoorShapeMoreA3
import Derived.Test.YtkmaieldmcjbfaaDoorShapeMoreX
/- The types and the plain functions. -/
namespace Go.Proofs.YtkmaieldmcjbfaaDoor
open Go.RowKit Go.Abs
noncomputable section
structure GOwner where
  fKind : Int
  fN : Int
  deriving DecidableEq
abbrev zGOwner : GOwner := ({ fKind := 0, fN := 0 } : GOwner)
abbrev eGOwner (x : GOwner) : List PV := [.int .i64 x.fKind, .int .i64 x.fN]
structure GType where
  fKind : Int
  fClass : List UInt8
  fN : Int
  fOwn : A4 GOwner
  deriving DecidableEq
abbrev zGType : GType := ({ fKind := 0, fClass := [], fN := 0, fOwn := (⟨zGOwner, zGOwner, zGOwner, zGOwner⟩ : A4 GOwner) } : GType)
abbrev eGType (x : GType) : List PV := [.int .i64 x.fKind, .str x.fClass, .int .i64 x.fN, .int .i64 x.fOwn.a0.fKind, .int .i64 x.fOwn.a0.fN, .int .i64 x.fOwn.a1.fKind, .int .i64 x.fOwn.a1.fN, .int .i64 x.fOwn.a2.fKind, .int .i64 x.fOwn.a2.fN, .int .i64 x.fOwn.a3.fKind, .int .i64 x.fOwn.a3.fN]
structure GVar where
  fName : List UInt8
  fType : GType
  fAt : Int
  deriving DecidableEq
abbrev zGVar : GVar := ({ fName := [], fType := zGType, fAt := 0 } : GVar)
abbrev eGVar (x : GVar) : List PV := [.str x.fName, .int .i64 x.fType.fKind, .str x.fType.fClass, .int .i64 x.fType.fN, .int .i64 x.fType.fOwn.a0.fKind, .int .i64 x.fType.fOwn.a0.fN, .int .i64 x.fType.fOwn.a1.fKind, .int .i64 x.fType.fOwn.a1.fN, .int .i64 x.fType.fOwn.a2.fKind, .int .i64 x.fType.fOwn.a2.fN, .int .i64 x.fType.fOwn.a3.fKind, .int .i64 x.fType.fOwn.a3.fN, .int .i64 x.fAt]
structure GExpr where
  fKind : Int
  fNum : Int
  fName : List UInt8
  fKids : List GExpr
abbrev zGExpr : GExpr := ({ fKind := 0, fNum := 0, fName := [], fKids := [] } : GExpr)
mutual
def rGExpr : GExpr → List PV
  | ⟨z0, z1, z2, z3⟩ => [.int .i64 z0, .int .i64 z1, .str z2, .vs 4 (eLGExpr z3)]
def eLGExpr : List GExpr → List (List PV)
  | [] => []
  | x :: l => rGExpr x :: eLGExpr l
end
abbrev eGExpr (x : GExpr) : List PV := [.int .i64 x.fKind, .int .i64 x.fNum, .str x.fName, .vs 4 (eLGExpr x.fKids)]
theorem rGExpr_eq (x : GExpr) : rGExpr x = eGExpr x := by cases x; simp only [rGExpr]
theorem eLGExpr_map : ∀ l : List GExpr, eLGExpr l = l.map eGExpr
  | [] => by simp only [eLGExpr, List.map_nil]
  | x :: l => by simp only [eLGExpr, List.map_cons, rGExpr_eq, eLGExpr_map l]
mutual
def mGExpr : GExpr → Nat
  | ⟨_, _, _, z3⟩ => 1 + mLGExpr z3
def mLGExpr : List GExpr → Nat
  | [] => 0
  | x :: l => mGExpr x + mLGExpr l
end
structure GStmt where
  fKind : Int
  fX : List UInt8
  fY : List UInt8
  fName : List UInt8
  fType : GType
  fE : GExpr
  fArgs : List GExpr
  fBody : List GStmt
  fElse : List GStmt
  fAt : Int
abbrev zGStmt : GStmt := ({ fKind := 0, fX := [], fY := [], fName := [], fType := zGType, fE := zGExpr, fArgs := [], fBody := [], fElse := [], fAt := 0 } : GStmt)
mutual
def rGStmt : GStmt → List PV
  | ⟨z0, z1, z2, z3, z4, z5, z6, z7, z8, z9⟩ => [.int .i64 z0, .str z1, .str z2, .str z3, .int .i64 z4.fKind, .str z4.fClass, .int .i64 z4.fN, .int .i64 z4.fOwn.a0.fKind, .int .i64 z4.fOwn.a0.fN, .int .i64 z4.fOwn.a1.fKind, .int .i64 z4.fOwn.a1.fN, .int .i64 z4.fOwn.a2.fKind, .int .i64 z4.fOwn.a2.fN, .int .i64 z4.fOwn.a3.fKind, .int .i64 z4.fOwn.a3.fN, .int .i64 z5.fKind, .int .i64 z5.fNum, .str z5.fName, .vs 4 (eLGExpr z5.fKids), .vs 4 (eLGExpr z6), .vs 23 (eLGStmt z7), .vs 23 (eLGStmt z8), .int .i64 z9]
def eLGStmt : List GStmt → List (List PV)
  | [] => []
  | x :: l => rGStmt x :: eLGStmt l
end
abbrev eGStmt (x : GStmt) : List PV := [.int .i64 x.fKind, .str x.fX, .str x.fY, .str x.fName, .int .i64 x.fType.fKind, .str x.fType.fClass, .int .i64 x.fType.fN, .int .i64 x.fType.fOwn.a0.fKind, .int .i64 x.fType.fOwn.a0.fN, .int .i64 x.fType.fOwn.a1.fKind, .int .i64 x.fType.fOwn.a1.fN, .int .i64 x.fType.fOwn.a2.fKind, .int .i64 x.fType.fOwn.a2.fN, .int .i64 x.fType.fOwn.a3.fKind, .int .i64 x.fType.fOwn.a3.fN, .int .i64 x.fE.fKind, .int .i64 x.fE.fNum, .str x.fE.fName, .vs 4 (eLGExpr x.fE.fKids), .vs 4 (eLGExpr x.fArgs), .vs 23 (eLGStmt x.fBody), .vs 23 (eLGStmt x.fElse), .int .i64 x.fAt]
theorem rGStmt_eq (x : GStmt) : rGStmt x = eGStmt x := by cases x; simp only [rGStmt]
theorem eLGStmt_map : ∀ l : List GStmt, eLGStmt l = l.map eGStmt
  | [] => by simp only [eLGStmt, List.map_nil]
  | x :: l => by simp only [eLGStmt, List.map_cons, rGStmt_eq, eLGStmt_map l]
mutual
def mGStmt : GStmt → Nat
  | ⟨_, _, _, _, _, z5, z6, z7, z8, _⟩ => 1 + mGExpr z5 + mLGExpr z6 + mLGStmt z7 + mLGStmt z8
def mLGStmt : List GStmt → Nat
  | [] => 0
  | x :: l => mGStmt x + mLGStmt l
end
structure GMethod where
  fName : List UInt8
  fPure : Bool
  fRet : GType
  fParams : List GVar
  fLocals : List GVar
  fBody : List GStmt
  fAt : Int
abbrev zGMethod : GMethod := ({ fName := [], fPure := false, fRet := zGType, fParams := [], fLocals := [], fBody := [], fAt := 0 } : GMethod)
def mGMethod : GMethod → Nat
  | ⟨_, _, _, _, _, z5, _⟩ => 1 + mLGStmt z5
def mLGMethod : List GMethod → Nat
  | [] => 0
  | x :: l => mGMethod x + mLGMethod l
abbrev eGMethod (x : GMethod) : List PV := [.str x.fName, .bool x.fPure, .int .i64 x.fRet.fKind, .str x.fRet.fClass, .int .i64 x.fRet.fN, .int .i64 x.fRet.fOwn.a0.fKind, .int .i64 x.fRet.fOwn.a0.fN, .int .i64 x.fRet.fOwn.a1.fKind, .int .i64 x.fRet.fOwn.a1.fN, .int .i64 x.fRet.fOwn.a2.fKind, .int .i64 x.fRet.fOwn.a2.fN, .int .i64 x.fRet.fOwn.a3.fKind, .int .i64 x.fRet.fOwn.a3.fN, .vs 13 (List.map eGVar x.fParams), .vs 13 (List.map eGVar x.fLocals), .vs 23 (eLGStmt x.fBody), .int .i64 x.fAt]
structure GClass where
  fName : List UInt8
  fParams : List (List UInt8)
  fSuper : List UInt8
  fAbove : List GOwner
  fFields : List GVar
  fMethods : List GMethod
  fAt : Int
abbrev zGClass : GClass := ({ fName := [], fParams := [], fSuper := [], fAbove := [], fFields := [], fMethods := [], fAt := 0 } : GClass)
def mGClass : GClass → Nat
  | ⟨_, _, _, _, _, z5, _⟩ => 1 + mLGMethod z5
def mLGClass : List GClass → Nat
  | [] => 0
  | x :: l => mGClass x + mLGClass l
abbrev eGClass (x : GClass) : List PV := [.str x.fName, .vs 1 (List.map eS x.fParams), .str x.fSuper, .vs 2 (List.map eGOwner x.fAbove), .vs 13 (List.map eGVar x.fFields), .vs 17 (List.map eGMethod x.fMethods), .int .i64 x.fAt]
def bGType (a b : GType) : Bool := (a.fKind == b.fKind && (a.fClass == b.fClass && (a.fN == b.fN && (a.fOwn.a0.fKind == b.fOwn.a0.fKind && (a.fOwn.a0.fN == b.fOwn.a0.fN && (a.fOwn.a1.fKind == b.fOwn.a1.fKind && (a.fOwn.a1.fN == b.fOwn.a1.fN && (a.fOwn.a2.fKind == b.fOwn.a2.fKind && (a.fOwn.a2.fN == b.fOwn.a2.fN && (a.fOwn.a3.fKind == b.fOwn.a3.fKind && (a.fOwn.a3.fN == b.fOwn.a3.fN && true)))))))))))
abbrev Clo0 := Go.Abs.Clo globs_Tryd Tryd.prog GExpr (GType × Int) (fun z : GExpr => ([.agg (eGExpr z)] : List PV)) (fun r : GType × Int => ([.p (.agg (eGType r.1)), .p (.int .i64 r.2)] : List Res))
set_option maxRecDepth 100000
set_option maxHeartbeats 4000000
def ref06_Size_L1 (a0 : GExpr) (ref06_Size_rec : GExpr → Option Int) : Nat → Int → Int → Option (Int)
  | 0, _, _ => none
  | n + 1, x14, x15 =>
    Option.bind (if (decide (x15 < (a0.fKids.length : Int))) = true then
      some (decide (x14 < 1000))
    else
      some false : Option (Bool)) fun x32 =>
    if x32 = true then
      Option.bind (idx a0.fKids x15) fun (y40 : GExpr) =>
      Option.bind (ref06_Size_rec y40) fun (y42 : Int) =>
      ref06_Size_L1 a0 ref06_Size_rec n (w_i64 (x14 + y42)) (w_i64 (x15 + 1))
    else
      some x14
def ref06_Size : Nat → GExpr → Option Int
  | 0, _ => none
  | n + 1, a0 =>
    Option.bind (ref06_Size_L1 a0 (ref06_Size n) (a0.fKids.length + 1) 1 0) fun x46 =>
    some x46
def slices_IndexFunc_api_Expr_L1 (a0 : List GExpr) (q1 : GExpr → Option Bool) : Nat → Int → Option (Ctl (Int) (Unit))
  | 0, _ => none
  | n + 1, x11 =>
    if (decide (x11 < (a0.length : Int))) = true then
      Option.bind (idx a0 x11) fun (y28 : GExpr) =>
      Option.bind (q1 y28) fun (y30 : Bool) =>
      if y30 = true then
        some (.stop x11)
      else
        slices_IndexFunc_api_Expr_L1 a0 q1 n (w_i64 (x11 + 1))
    else
      some (.next ())
def slices_IndexFunc_api_Expr (a0 : List GExpr) (q1 : GExpr → Option Bool) : Option Int :=
  Option.bind (slices_IndexFunc_api_Expr_L1 a0 q1 ((((a0.length : Int) : Int) - (0)).toNat + 1) 0) fun lr34 =>
  Ctl.elim lr34 (fun v => some v) fun _ =>
  some (-1)
def slices_ContainsFunc_api_Expr (a0 : List GExpr) (q1 : GExpr → Option Bool) : Option Bool :=
  Option.bind (slices_IndexFunc_api_Expr a0 q1) fun (y1 : Int) =>
  some (decide (y1 ≥ 0))
mutual
def expr_deep : Nat → GExpr → Int → Option Bool
  | 0, _, _ => none
  | n + 1, a0, a1 =>
    if (a1 == 0) = true then
      some false
    else
      Option.bind (slices_ContainsFunc_api_Expr a0.fKids (fun (z2 : GExpr) => (expr_deep_1 n) z2 a1)) fun (y3 : Bool) =>
      some (!y3)
def expr_deep_1 : Nat → GExpr → Int → Option Bool
  | 0, _, _ => none
  | n + 1, a0, c0 =>
    Option.bind ((expr_deep n) a0 (w_i64 (c0 - 1))) fun (y1 : Bool) =>
    some (!y1)
end

def expr_all (a0 : GExpr) : Option GExpr :=
  some a0
def slices_Backward_api_Expr (a0 : List GExpr) : Option (List GExpr) :=
  some a0
def slices_Backward_api_Expr_1_L1 (c0 : List GExpr) (sp : Nat) (rows : List (Int × GExpr)) : Nat → Nat → Int → Option (Ctl (Nat) (Nat))
  | 0, _, _ => none
  | n + 1, x11, x12 =>
    if (decide (x12 ≥ 0)) = true then
      Option.bind (idx c0 x12) fun (y30 : GExpr) =>
      Option.bind (yck rows sp x11 (x12, y30)) fun (u32 : Unit) =>
      if (!(!(x11 == sp))) = true then
        some (.stop (x11 + 1))
      else
        slices_Backward_api_Expr_1_L1 c0 sp rows n (x11 + 1) (w_i64 (x12 - 1))
    else
      some (.next x11)
def slices_Backward_api_Expr_1 (rows : List (Int × GExpr)) (sp : Nat) (c0 : List GExpr) : Option Nat :=
  Option.bind (slices_Backward_api_Expr_1_L1 c0 sp rows ((((w_i64 ((c0.length : Int) - 1)) : Int) - (0)).toNat + 2) 0 (w_i64 ((c0.length : Int) - 1))) fun lr38 =>
  Ctl.elim lr38 (fun v => some v) fun x37 =>
  some x37
def itR_back_api_Expr_n (l : List GExpr) : Nat → List (Int × GExpr)
  | 0 => []
  | n + 1 => match l[n]? with
    | some x => ((n : Int), x) :: itR_back_api_Expr_n l n
    | none => []
def itR_back_api_Expr (l : List GExpr) : Option (List (Int × GExpr)) := if l.length < 4611686018427387904 then some (itR_back_api_Expr_n l l.length) else none
def expr_all_1_B2  : Int × GExpr → (List GExpr) → Option (Ctl Unit (List GExpr))
  | (x131, x132), x123 =>
    Option.bind (room ((x123.length : Int) + (([zGExpr] : List GExpr).length : Int)) 56) fun (u133 : Unit) =>
    Option.bind (idx (x123 ++ ([zGExpr] : List GExpr)) (x123.length : Int)) fun (y135 : GExpr) =>
    some (.next ((x123 ++ ([zGExpr] : List GExpr)).set ((x123.length : Int) : Int).toNat x132))
def expr_all_1_L1 (sp : Nat) (rows : List (GExpr)) : Nat → Nat → (List GExpr) → Option (Ctl (Nat) (Nat))
  | 0, _, _ => none
  | n + 1, x48, x49 =>
    if (decide ((x49.length : Int) > 0)) = true then
      Option.bind (idx x49 (w_i64 ((x49.length : Int) - 1))) fun (y102 : GExpr) =>
      Option.bind (cutL x49 0 (w_i64 ((x49.length : Int) - 1))) fun (y106 : List GExpr) =>
      Option.bind (yck rows sp x48 y102) fun (u110 : Unit) =>
      if (!(!(x48 == sp))) = true then
        some (.stop (x48 + 1))
      else
        Option.bind (slices_Backward_api_Expr y102.fKids) fun (y115 : (List GExpr)) =>
        Option.bind (itR_back_api_Expr y115) fun (rows138 : List (Int × GExpr)) =>
        Option.bind (runs expr_all_1_B2 rows138 y106) fun (lr140 : Ctl Unit (List GExpr)) =>
        Ctl.elim lr140 (fun _ => none) (fun x123 =>
          expr_all_1_L1 sp rows n (x48 + 1) x123)
    else
      some (.next x48)
def expr_all_1 (rows : List (GExpr)) (sp : Nat) (c0 : GExpr) : Option Nat :=
  Option.bind (expr_all_1_L1 sp rows (mGExpr c0 + 2) 0 [c0]) fun lr149 =>
  Ctl.elim lr149 (fun v => some v) fun x148 =>
  some x148
mutual
def preE : GExpr → List GExpr
  | ⟨k, n, nm, l⟩ => ⟨k, n, nm, l⟩ :: preEL l
def preEL : List GExpr → List GExpr
  | [] => []
  | x :: l => preE x ++ preEL l
end
def itR_all (e : GExpr) : Option (List GExpr) := if mGExpr e ≤ 1000000 then some (preE e) else none
def expr_kids (a0 : Int) : Option Int :=
  Option.bind (if (a0 == 1) = true then
    some (a0 == 1)
  else
    if (a0 == 2) = true then
      some (a0 == 2)
    else
      if (a0 == 3) = true then
        some (a0 == 3)
      else
        if (a0 == 4) = true then
          some (a0 == 4)
        else
          some (a0 == 5) : Option (Bool)) fun x5 =>
  if x5 = true then
    some 0
  else
    Option.bind (if (a0 == 12) = true then
      some (a0 == 12)
    else
      some (a0 == 13) : Option (Bool)) fun x10 =>
    if x10 = true then
      some 1
    else
      Option.bind (if (a0 == 6) = true then
        some (a0 == 6)
      else
        if (a0 == 7) = true then
          some (a0 == 7)
        else
          if (a0 == 8) = true then
            some (a0 == 8)
          else
            if (a0 == 9) = true then
              some (a0 == 9)
            else
              if (a0 == 10) = true then
                some (a0 == 10)
              else
                if (a0 == 11) = true then
                  some (a0 == 11)
                else
                  some (a0 == 14) : Option (Bool)) fun x20 =>
      if x20 = true then
        some 2
      else
        some (-1)
def word_Letter (a0 : Int) : Option Bool :=
  if (decide ((orI .u8 a0 32) ≥ 97)) = true then
    some (decide ((orI .u8 a0 32) ≤ 122))
  else
    some false
def word_Digit (a0 : Int) : Option Bool :=
  some (decide ((w_u8 (a0 - 48)) < 10))
def glob_0 : List (List UInt8) := [[99, 108, 97, 115, 115], [101, 120, 116, 101, 110, 100, 115], [114, 101, 112], [112, 101, 101, 114], [119, 111, 114, 108, 100], [97, 110, 121], [117, 110, 105, 113, 117, 101], [112, 117, 114, 101], [118, 111, 105, 100], [105, 110, 116], [105, 102], [101, 108, 115, 101], [119, 104, 105, 108, 101], [114, 101, 116, 117, 114, 110], [110, 101, 119], [109, 111, 118, 101], [100, 101, 108, 101, 116, 101], [116, 104, 105, 115], [110, 117, 108, 108], [105, 110, 112, 117, 116], [110, 105, 108], [115, 97, 109, 101], [99, 97, 115, 116]]
def globrow_0 : List PV := [.str [99, 108, 97, 115, 115], .str [101, 120, 116, 101, 110, 100, 115], .str [114, 101, 112], .str [112, 101, 101, 114], .str [119, 111, 114, 108, 100], .str [97, 110, 121], .str [117, 110, 105, 113, 117, 101], .str [112, 117, 114, 101], .str [118, 111, 105, 100], .str [105, 110, 116], .str [105, 102], .str [101, 108, 115, 101], .str [119, 104, 105, 108, 101], .str [114, 101, 116, 117, 114, 110], .str [110, 101, 119], .str [109, 111, 118, 101], .str [100, 101, 108, 101, 116, 101], .str [116, 104, 105, 115], .str [110, 117, 108, 108], .str [105, 110, 112, 117, 116], .str [110, 105, 108], .str [115, 97, 109, 101], .str [99, 97, 115, 116]]
theorem globe_0 : globrow_0 = (List.map eS glob_0).flatten := by kernel_rfl
theorem globm_0 : (0, globrow_0) ∈ globs_Tryd := .head _
def word_is (a0 : List UInt8) : Option (List UInt8) :=
  some a0
def slices_IndexFunc_string_L1 (a0 : List (List UInt8)) (q1 : (List UInt8) → Option Bool) : Nat → Int → Option (Ctl (Int) (Unit))
  | 0, _ => none
  | n + 1, x11 =>
    if (decide (x11 < (a0.length : Int))) = true then
      Option.bind (idx a0 x11) fun (y28 : List UInt8) =>
      Option.bind (q1 y28) fun (y30 : Bool) =>
      if y30 = true then
        some (.stop x11)
      else
        slices_IndexFunc_string_L1 a0 q1 n (w_i64 (x11 + 1))
    else
      some (.next ())
def slices_IndexFunc_string (a0 : List (List UInt8)) (q1 : (List UInt8) → Option Bool) : Option Int :=
  Option.bind (slices_IndexFunc_string_L1 a0 q1 ((((a0.length : Int) : Int) - (0)).toNat + 1) 0) fun lr34 =>
  Ctl.elim lr34 (fun v => some v) fun _ =>
  some (-1)
def word_is_1 (a0 : List UInt8) (c0 : List UInt8) : Option Bool :=
  some (a0 == c0)
def word_Find (a0 : List UInt8) : Option Int :=
  Option.bind (word_is a0) fun (y1 : (List UInt8)) =>
  Option.bind (slices_IndexFunc_string glob_0 (fun (z3 : List UInt8) => word_is_1 z3 y1)) fun (y4 : Int) =>
  some (w_i64 (y4 + 1))
def word_Name_L1 (a0 : List UInt8) : Nat → Int → Option (Ctl (Bool) (Unit))
  | 0, _ => none
  | n + 1, x31 =>
    if (decide (x31 < ((bytesL a0).length : Int))) = true then
      Option.bind (idx (bytesL a0) x31) fun (y52 : Int) =>
      Option.bind (Option.bind (word_Letter y52) fun (y56 : Bool) =>
      if (!y56) = true then
        Option.bind (word_Digit y52) fun (y59 : Bool) =>
        some (!y59)
      else
        some false : Option (Bool)) fun x61 =>
      if x61 = true then
        some (.stop false)
      else
        word_Name_L1 a0 n (w_i64 (x31 + 1))
    else
      some (.next ())
def word_Name (a0 : List UInt8) : Option Bool :=
  Option.bind (if (a0 == []) = true then
    some true
  else
    if (decide ((a0.length : Int) > 20)) = true then
      some true
    else
      Option.bind (idx a0 0) fun (y3 : UInt8) =>
      Option.bind (word_Letter (y3.toNat : Int)) fun (y5 : Bool) =>
      some (!y5) : Option (Bool)) fun x7 =>
  if x7 = true then
    some false
  else
    Option.bind (room (a0.length : Int) 1) fun (u13 : Unit) =>
    Option.bind (word_Name_L1 a0 (((((bytesL a0).length : Int) : Int) - (0)).toNat + 1) 0) fun lr66 =>
    Ctl.elim lr66 (fun v => some v) fun _ =>
    Option.bind (word_Find a0) fun (y68 : Int) =>
    some (y68 == 0)
def expr_plain_1 (a0 : GExpr) (c0 : GExpr) : Option Bool :=
  if (a0.fKind != 2) = true then
    if (a0.fKind != 3) = true then
      if (a0.fKind != 4) = true then
        some true
      else
        some (c0.fKind == 13)
    else
      some false
  else
    some false
def expr_plain (a0 : GExpr) : Option Bool :=
  Option.bind (Option.bind (expr_kids a0.fKind) fun (y3 : Int) =>
  if ((a0.fKids.length : Int) != y3) = true then
    some true
  else
    if (a0.fKind != 1) = true then
      if (a0.fNum != 0) = true then
        some true
      else
        if (a0.fKind != 2) = true then
          some (!(a0.fName == []))
        else
          some false
    else
      if (a0.fKind != 2) = true then
        some (!(a0.fName == []))
      else
        some false : Option (Bool)) fun x10 =>
  if x10 = true then
    some false
  else
    if (a0.fKind == 1) = true then
      if (decide (a0.fNum ≥ 0)) = true then
        some (decide (a0.fNum ≤ 999999999))
      else
        some false
    else
      if (a0.fKind == 2) = true then
        Option.bind (word_Name a0.fName) fun (y17 : Bool) =>
        some y17
      else
        Option.bind (if (a0.fKind == 13) = true then
          some (a0.fKind == 13)
        else
          some (a0.fKind == 14) : Option (Bool)) fun x20 =>
        if x20 = true then
          Option.bind (slices_ContainsFunc_api_Expr a0.fKids (fun (z24 : GExpr) => expr_plain_1 z24 a0)) fun (y25 : Bool) =>
          some (!y25)
        else
          some true
def expr_Right_B1  : GExpr → Unit → Option (Ctl Unit Unit)
  | x22, _ =>
    Option.bind (expr_plain x22) fun (y25 : Bool) =>
    if (!y25) = true then
      some (.stop ())
    else
      some (.next ())
def expr_Right (a0 : GExpr) : Option Bool :=
  Option.bind (expr_deep (2 * (20 : Int).toNat + 2) a0 20) fun (y3 : Bool) =>
  if (!y3) = true then
    some false
  else
    Option.bind (expr_all a0) fun (y8 : GExpr) =>
    Option.bind (itR_all y8) fun (rows28 : List (GExpr)) =>
    Option.bind (runs expr_Right_B1 rows28 ()) fun (lr30 : Ctl Unit Unit) =>
    Ctl.elim lr30 (fun _ =>
      some false) (fun _ =>
      some true)
def raise_This_L1 (a0 : GClass) : Nat → (List GOwner) → Int → Option ((List GOwner))
  | 0, _, _ => none
  | n + 1, x10, x11 =>
    if (decide (x11 < ((List.replicate (w_i64 ((a0.fParams.length : Int) + 1) : Int).toNat zGOwner).length : Int))) = true then
      Option.bind (idx x10 x11) fun (y22 : GOwner) =>
      raise_This_L1 a0 n (x10.set (x11 : Int).toNat ({ fKind := 3, fN := x11 } : GOwner)) (w_i64 (x11 + 1))
    else
      some x10
def raise_This (a0 : GClass) : Option (List GOwner) :=
  Option.bind (mkOk (w_i64 ((a0.fParams.length : Int) + 1)) (w_i64 ((a0.fParams.length : Int) + 1)) 16) fun (u3 : Unit) =>
  Option.bind (raise_This_L1 a0 (((((List.replicate (w_i64 ((a0.fParams.length : Int) + 1) : Int).toNat zGOwner).length : Int) : Int) - (0)).toNat + 1) (List.replicate (w_i64 ((a0.fParams.length : Int) + 1) : Int).toNat zGOwner) 0) fun x26 =>
  Option.bind (idx x26 0) fun (y28 : GOwner) =>
  some (x26.set (0 : Int).toNat ({ fKind := 2, fN := 0 } : GOwner))
theorem raise_This_ok {a0 : GClass} {r : (List GOwner)} (hF : raise_This a0 = some r) : Abs.Fn globs_Tryd Tryd.prog 67 [.agg (eGClass a0)] [.own 23 2 (List.map eGOwner r)] := by
  unfold raise_This at hF
  refine fn_of_body (n := 25) Tryd.func67 rfl rfl rfl ?_
  intro w O
  refine aw_seq ?_
  refine aw_region ?_
  refine rgp (op_box 0 rfl rfl rfl rfl rfl rfl) ?_
  refine ras ?_
  refine reg_nil ?_
  refine post_imp (s' := ⟨25, [(1, some (.lp 0 0))], [(0, some (.box 39 (bxv (eGClass a0))))], 1, [], [], 0, []⟩) (imps [0] ⟨by kernel_rfl, trivial⟩ ⟨by kernel_rfl, trivial⟩) ?_
  refine post_next ?_
  refine aw_seq ?_
  refine aw_region ?_
  refine rgp (op_field_lp rfl rfl Tryd_fld_39_1 rfl rfl) ?_
  refine rgp (op_load_lp (v := .pv (.vs 1 (List.map eS a0.fParams))) rfl rfl rfl rfl Tryd_one_27 rfl rfl) ?_
  refine rgp (op_len_vs (n := a0.fParams.length) rfl rfl (List.length_map ..) Tryd_slc_27 rfl rfl) ?_
  refine rgp (op_int (k := .i64) (m := (a0.fParams.length : Int)) (n := 1) rfl rfl rfl rfl rfl rfl) ?_
  obtain ⟨u3, h4, hF⟩ := bind_some hF
  refine rgp (op_make 1 rfl (k := .i64) (k' := .i64) (n := w_i64 ((a0.fParams.length : Int) + 1)) (m := w_i64 ((a0.fParams.length : Int) + 1)) (zs := eGOwner zGOwner) rfl rfl rfl (mkOk_spec h4).1 (mkOk_spec h4).2.1 (mkOk_spec h4).2.2 Tryd_slc_35 Tryd_elm_23 rfl Tryd_zer_23 (by exact ⟨rfl, rfl, trivial⟩) rfl rfl (map_rep eGOwner _ _) rfl rfl) ?_
  refine ras ?_
  refine reg_nil ?_
  refine post_imp (s' := ⟨25, [(3, some (.ls 0))], [(0, some (.row 23 2 (List.map eGOwner (List.replicate (w_i64 ((a0.fParams.length : Int) + 1) : Int).toNat zGOwner))))], 1, [], [], 0, []⟩) (imps [1] ⟨by kernel_rfl, trivial⟩ ⟨by kernel_rfl, trivial⟩) ?_
  refine post_next ?_
  iterate 2 (refine aw_seq ?_)
  refine aw_region ?_
  refine rmv ?_
  refine rgp (op_len_ls (n := (List.replicate (w_i64 ((a0.fParams.length : Int) + 1) : Int).toNat zGOwner).length) rfl rfl rfl (List.length_map ..) Tryd_slc_35 rfl rfl) ?_
  refine rmv ?_
  refine reg_nil ?_
  refine post_imp (s' := ⟨25, [(3, some (.ls 0)), (11, some (.pv (.int .i64 ((List.replicate (w_i64 ((a0.fParams.length : Int) + 1) : Int).toNat zGOwner).length : Int)))), (12, some (.pv (.int .i64 0)))], [(0, some (.row 23 2 (List.map eGOwner (List.replicate (w_i64 ((a0.fParams.length : Int) + 1) : Int).toNat zGOwner))))], 1, [], [], 0, []⟩) (imps [0] ⟨by kernel_rfl, by kernel_rfl, by kernel_rfl, trivial⟩ ⟨by kernel_rfl, trivial⟩) ?_
  refine post_next ?_
  obtain ⟨x26, hF, hK27⟩ := bind_some hF
  refine aw_for (((((List.replicate (w_i64 ((a0.fParams.length : Int) + 1) : Int).toNat zGOwner).length : Int) : Int) - (0)).toNat + 1) (fun s1 => s1 = ⟨25, [(3, some (.ls 0))], [(0, some (.row 23 2 (List.map eGOwner x26)))], 1, [], [], 0, []⟩) ?_ ?_
  · refine rnd_loop (α := (List GOwner) × Int) (fun q => ⟨25, [(3, some (.ls 0)), (11, some (.pv (.int .i64 ((List.replicate (w_i64 ((a0.fParams.length : Int) + 1) : Int).toNat zGOwner).length : Int)))), (12, some (.pv (.int .i64 q.2)))], [(0, some (.row 23 2 (List.map eGOwner q.1)))], 1, [], [], 0, []⟩) (fun k q => raise_This_L1 a0 k q.1 q.2 = some x26) ((List.replicate (w_i64 ((a0.fParams.length : Int) + 1) : Int).toNat zGOwner), 0) (imps [0] ⟨by kernel_rfl, by kernel_rfl, by kernel_rfl, trivial⟩ ⟨by kernel_rfl, trivial⟩) hF (fun q h => by cases h) ?_
    clear hF
    rintro k ⟨x10, x11⟩ hF ih
    refine rnd_succ ?_
    refine aw_seq ?_
    refine aw_region ?_
    refine rgp (op_int (k := .i64) (m := x11) (n := ((List.replicate (w_i64 ((a0.fParams.length : Int) + 1) : Int).toNat zGOwner).length : Int)) rfl rfl rfl rfl rfl rfl) ?_
    refine reg_nil ?_
    refine post_imp (s' := ⟨25, [(3, some (.ls 0)), (11, some (.pv (.int .i64 ((List.replicate (w_i64 ((a0.fParams.length : Int) + 1) : Int).toNat zGOwner).length : Int)))), (12, some (.pv (.int .i64 x11))), (13, some (.pv (.bool (decide (x11 < ((List.replicate (w_i64 ((a0.fParams.length : Int) + 1) : Int).toNat zGOwner).length : Int))))))], [(0, some (.row 23 2 (List.map eGOwner x10)))], 1, [], [], 0, []⟩) (imps [0] ⟨by kernel_rfl, by kernel_rfl, by kernel_rfl, by kernel_rfl, trivial⟩ ⟨by kernel_rfl, trivial⟩) ?_
    refine post_next ?_
    refine aw_seq ?_
    rcases ite_some hF with ⟨hb19, hF⟩ | ⟨hb19, hF⟩
    · refine aw_cond_t rfl hb19 ?_
      refine aw_skip ?_
      refine post_next ?_
      refine aw_seq ?_
      refine aw_block ?_
      refine aw_seq ?_
      refine aw_region ?_
      refine rmv ?_
      refine ras ?_
      refine reg_nil ?_
      refine post_imp (s' := ⟨25, [(3, some (.ls 0)), (4, some (.pv (.int .i64 x11))), (11, some (.pv (.int .i64 ((List.replicate (w_i64 ((a0.fParams.length : Int) + 1) : Int).toNat zGOwner).length : Int)))), (12, some (.pv (.int .i64 x11)))], [(0, some (.row 23 2 (List.map eGOwner x10)))], 1, [], [], 0, []⟩) (imps [0] ⟨by kernel_rfl, by kernel_rfl, by kernel_rfl, by kernel_rfl, trivial⟩ ⟨by kernel_rfl, trivial⟩) ?_
      refine post_next ?_
      refine aw_region ?_
      iterate 3 (refine rmv ?_)
      refine rgp (op_build (zs := (eGOwner zGOwner)) (r := eGOwner ({ fKind := 3, fN := x11 } : GOwner)) rfl Tryd_zer_23 (by exact ⟨rfl, rfl, trivial⟩) Tryd_plc_23 rfl rfl rfl rfl) ?_
      obtain ⟨y22, h23, hF⟩ := bind_some hF
      refine rgp (op_index_ls (k := .i64) rfl rfl rfl rfl (idx_map eGOwner h23) Tryd_slc_35 rfl rfl) ?_
      refine rgp (op_store_le (n := 2) rfl rfl rfl rfl rfl (map_get eGOwner h23) (or_agg Tryd_agg_23) (by rw [Tryd_non_23]; rfl) rfl (map_set' eGOwner x10 _ ({ fKind := 3, fN := x11 } : GOwner)) rfl rfl) ?_
      refine reg_nil ?_
      refine post_imp (s' := ⟨25, [(3, some (.ls 0)), (11, some (.pv (.int .i64 ((List.replicate (w_i64 ((a0.fParams.length : Int) + 1) : Int).toNat zGOwner).length : Int)))), (12, some (.pv (.int .i64 x11)))], [(0, some (.row 23 2 (List.map eGOwner (x10.set (x11 : Int).toNat ({ fKind := 3, fN := x11 } : GOwner)))))], 1, [], [], 0, []⟩) (imps [0] ⟨by kernel_rfl, by kernel_rfl, by kernel_rfl, trivial⟩ ⟨by kernel_rfl, trivial⟩) ?_
      refine post_block_normal ?_
      refine post_next ?_
      refine aw_region ?_
      refine rgp (op_int (k := .i64) (m := x11) (n := 1) rfl rfl rfl rfl rfl rfl) ?_
      refine rmv ?_
      refine reg_nil ?_
      refine post_round ?_
      exact rnd_back (ih ((x10.set (x11 : Int).toNat ({ fKind := 3, fN := x11 } : GOwner)), w_i64 (x11 + 1)) hF) (imps [0] ⟨by kernel_rfl, by kernel_rfl, by kernel_rfl, trivial⟩ ⟨by kernel_rfl, trivial⟩)
    refine aw_cond_f rfl hb19 ?_
    refine aw_exit ?_
    iterate 2 (refine post_then_exit ?_)
    obtain rfl := Option.some.inj hF
    exact post_lp_break _ rfl (imps [0] ⟨by kernel_rfl, trivial⟩ ⟨by kernel_rfl, trivial⟩)
  rintro _ rfl
  have hF := hK27
  clear hK27
  refine post_next ?_
  refine aw_seq ?_
  refine aw_region ?_
  refine rmv ?_
  refine rgp (op_build (zs := (eGOwner zGOwner)) (r := eGOwner ({ fKind := 2, fN := 0 } : GOwner)) rfl Tryd_zer_23 (by exact ⟨rfl, rfl, trivial⟩) Tryd_plc_23 rfl rfl rfl rfl) ?_
  obtain ⟨y28, h29, hF⟩ := bind_some hF
  refine rgp (op_index_ls (k := .i64) rfl rfl rfl rfl (idx_map eGOwner h29) Tryd_slc_35 rfl rfl) ?_
  refine rgp (op_store_le (n := 2) rfl rfl rfl rfl rfl (map_get eGOwner h29) (or_agg Tryd_agg_23) (by rw [Tryd_non_23]; rfl) rfl (map_set' eGOwner x26 _ ({ fKind := 2, fN := 0 } : GOwner)) rfl rfl) ?_
  refine reg_nil ?_
  refine post_imp (s' := ⟨25, [(3, some (.ls 0))], [(0, some (.row 23 2 (List.map eGOwner (x26.set (0 : Int).toNat ({ fKind := 2, fN := 0 } : GOwner)))))], 1, [], [], 0, []⟩) (imps [0] ⟨by kernel_rfl, trivial⟩ ⟨by kernel_rfl, trivial⟩) ?_
  refine post_next ?_
  refine aw_seq ?_
  refine aw_region ?_
  refine rmv ?_
  refine ras ?_
  refine reg_nil ?_
  refine post_imp (s' := ⟨25, [(2, some (.ls 0))], [(0, some (.row 23 2 (List.map eGOwner (x26.set (0 : Int).toNat ({ fKind := 2, fN := 0 } : GOwner)))))], 1, [], [], 0, []⟩) (imps [0] ⟨by kernel_rfl, trivial⟩ ⟨by kernel_rfl, trivial⟩) ?_
  refine post_next ?_
  refine aw_ret ?_
  obtain rfl := Option.some.inj hF
  exact post_ret rfl rfl (.cons _ _ _ _ _ (.tmp _ _ rfl) (.own _ _ _ _ rfl nolent3) .nil) (.inl rfl)
def scope_This (a0 : GClass) : Option GType :=
  Option.bind (raise_This a0) fun (y1 : (List GOwner)) =>
  some ({ ({ ({ fKind := 2, fClass := a0.fName, fN := 0, fOwn := (⟨zGOwner, zGOwner, zGOwner, zGOwner⟩ : A4 GOwner) } : GType) with fOwn := (A4.cp (({ fKind := 2, fClass := a0.fName, fN := 0, fOwn := (⟨zGOwner, zGOwner, zGOwner, zGOwner⟩ : A4 GOwner) } : GType).fOwn) y1) } : GType) with fN := w_i64 ((Nat.min (List.map eGOwner y1).length 4 : Nat) - 1) } : GType)
theorem scope_This_ok {a0 : GClass} {r : GType} (hF : scope_This a0 = some r) : Abs.Fn globs_Tryd Tryd.prog 45 [.agg (eGClass a0)] [.p (.agg (eGType r))] := by
  unfold scope_This at hF
  refine fn_of_body (n := 15) Tryd.func45 rfl rfl rfl ?_
  intro w O
  refine aw_seq ?_
  refine aw_region ?_
  refine rgp (op_box 0 rfl rfl rfl rfl rfl rfl) ?_
  refine rgp (op_alloc 1 rfl (ps := (eGType zGType)) rfl Tryd_zer_26 (by exact ⟨rfl, rfl, rfl, rfl, rfl, rfl, rfl, rfl, rfl, rfl, rfl, trivial⟩) rfl rfl) ?_
  refine reg_nil ?_
  refine post_imp (s' := ⟨15, [(1, some (.lp 0 0)), (2, some (.lp 1 0))], [(0, some (.box 39 (bxv (eGClass a0)))), (1, some (.box 26 (bxv (eGType zGType))))], 2, [], [], 0, []⟩) (imps [0, 1] ⟨by kernel_rfl, by kernel_rfl, trivial⟩ ⟨by kernel_rfl, by kernel_rfl, trivial⟩) ?_
  refine post_next ?_
  refine aw_seq ?_
  refine aw_region ?_
  refine rgp (op_field_lp rfl rfl Tryd_fld_39_0 rfl rfl) ?_
  refine rgp (op_load_lp (v := .pv (.str a0.fName)) rfl rfl rfl rfl Tryd_one_9 rfl rfl) ?_
  refine rgp (op_build (zs := (eGType zGType)) (r := eGType ({ fKind := 2, fClass := a0.fName, fN := 0, fOwn := (⟨zGOwner, zGOwner, zGOwner, zGOwner⟩ : A4 GOwner) } : GType)) rfl Tryd_zer_26 (by exact ⟨rfl, rfl, rfl, rfl, rfl, rfl, rfl, rfl, rfl, rfl, rfl, trivial⟩) Tryd_plc_26 rfl rfl rfl rfl) ?_
  refine rgp (op_alloc 2 rfl (ps := (eGType zGType)) rfl Tryd_zer_26 (by exact ⟨rfl, rfl, rfl, rfl, rfl, rfl, rfl, rfl, rfl, rfl, rfl, trivial⟩) rfl rfl) ?_
  refine rgp (op_store_lp (n := 11) rfl rfl rfl rfl rfl (or_agg Tryd_agg_26) (by rw [Tryd_non_26]; rfl) rfl rfl rfl) ?_
  refine reg_nil ?_
  refine post_imp (s' := ⟨15, [(1, some (.lp 0 0)), (2, some (.lp 1 0)), (3, some (.lp 2 0))], [(0, some (.box 39 (bxv (eGClass a0)))), (1, some (.box 26 (bxv (eGType zGType)))), (2, some (.box 26 (bxv (eGType ({ fKind := 2, fClass := a0.fName, fN := 0, fOwn := (⟨zGOwner, zGOwner, zGOwner, zGOwner⟩ : A4 GOwner) } : GType)))))], 3, [], [], 0, []⟩) (imps [0, 1, 2] ⟨by kernel_rfl, by kernel_rfl, by kernel_rfl, trivial⟩ ⟨by kernel_rfl, by kernel_rfl, by kernel_rfl, trivial⟩) ?_
  refine post_next ?_
  refine aw_seq ?_
  refine dr_start ⟨_, _, _⟩ rfl ?_
  refine dr_cons { need := [(3, .lp 2 0)], dst := some 7, val := some (.lp 2 3) } (fun m h => step_on (guard_no rfl) (op_field_lp rfl h.1.1 Tryd_fld_26_3 rfl rfl) rfl) ⟨⟨rfl, trivial⟩, trivial, trivial⟩ ?_
  refine dr_cons { need := [(7, .lp 2 3)], dst := some 8, val := some (.aw 2 3 4) } (fun m h => step_on (guard_no rfl) (op_slice_aw rfl h.1.1 Tryd_arr_24 rfl rfl) rfl) ⟨⟨rfl, trivial⟩, trivial, trivial⟩ ?_
  refine dr_cons { need := [(1, .lp 0 0)], hneed := [(0, .box 39 (bxv (eGClass a0)))], dst := some 9, val := some (.pv (.agg (eGClass a0))) } (fun m h => step_on (guard_no rfl) (op_load_lp_agg (ps := eGClass a0) rfl h.1.1 h.2.1.1 rfl rfl rfl Tryd_agg_39 rfl rfl) rfl) ⟨⟨rfl, trivial⟩, ⟨rfl, trivial⟩, trivial⟩ ?_
  obtain ⟨y1, h2, hF⟩ := bind_some hF
  refine dr_cons { need := [(9, .pv (.agg (eGClass a0)))], dst := some 10, val := some (.pv (.vs 2 (List.map eGOwner y1))) } (fun m h => step_on (guard_no rfl) (op_call 3 rfl (caps := []) (args := [.agg (eGClass a0)]) (rs := [.p (.vs 2 (List.map eGOwner y1))]) rfl rfl (evl_cons h.1.1 evl_nil) Tryd_cal_67 (Fn.frozen (raise_This_ok h2)) rfl rfl rfl) rfl) ⟨⟨rfl, trivial⟩, trivial, trivial⟩ ?_
  refine dr_cons { need := [(8, .aw 2 3 4), (10, .pv (.vs 2 (List.map eGOwner y1)))], hneed := [(2, .box 26 (bxv (eGType ({ fKind := 2, fClass := a0.fName, fN := 0, fOwn := (⟨zGOwner, zGOwner, zGOwner, zGOwner⟩ : A4 GOwner) } : GType))))], dst := some 11, val := some (.pv (.int .i64 (Nat.min (List.map eGOwner y1).length 4 : Nat))), upd := [(2, some (.box 26 (bxv (eGType ({ ({ fKind := 2, fClass := a0.fName, fN := 0, fOwn := (⟨zGOwner, zGOwner, zGOwner, zGOwner⟩ : A4 GOwner) } : GType) with fOwn := (A4.cp (({ fKind := 2, fClass := a0.fName, fN := 0, fOwn := (⟨zGOwner, zGOwner, zGOwner, zGOwner⟩ : A4 GOwner) } : GType).fOwn) y1) } : GType)))))] } (fun m h => step_on (guard_no rfl) (op_copy_aw (news := List.map eGOwner y1) (cells' := bxv (eGType ({ ({ fKind := 2, fClass := a0.fName, fN := 0, fOwn := (⟨zGOwner, zGOwner, zGOwner, zGOwner⟩ : A4 GOwner) } : GType) with fOwn := (A4.cp (({ fKind := 2, fClass := a0.fName, fN := 0, fOwn := (⟨zGOwner, zGOwner, zGOwner, zGOwner⟩ : A4 GOwner) } : GType).fOwn) y1) } : GType))) rfl h.1.1 h.2.1.1 h.1.2.1 Tryd_slc_35 rfl (cp4 (fun l => splice (bxv (eGType ({ fKind := 2, fClass := a0.fName, fN := 0, fOwn := (⟨zGOwner, zGOwner, zGOwner, zGOwner⟩ : A4 GOwner) } : GType))) 3 (((List.map eGOwner l).take 4).flatten.map .pv) = bxv (eGType ({ ({ fKind := 2, fClass := a0.fName, fN := 0, fOwn := (⟨zGOwner, zGOwner, zGOwner, zGOwner⟩ : A4 GOwner) } : GType) with fOwn := (A4.cp (({ fKind := 2, fClass := a0.fName, fN := 0, fOwn := (⟨zGOwner, zGOwner, zGOwner, zGOwner⟩ : A4 GOwner) } : GType).fOwn) l) } : GType))) y1 ⟨rfl, fun _ => rfl, fun _ _ => rfl, fun _ _ _ => rfl, fun _ _ _ _ _ => rfl⟩) rfl rfl) rfl) ⟨⟨rfl, rfl, trivial⟩, ⟨rfl, trivial⟩, trivial⟩ ?_
  refine dr_cons { need := [(11, .pv (.int .i64 (Nat.min (List.map eGOwner y1).length 4 : Nat)))], dst := some 12, val := some (.pv (.int .i64 (w_i64 ((Nat.min (List.map eGOwner y1).length 4 : Nat) - 1)))) } (fun m h => step_on (guard_no rfl) (op_int (k := .i64) (m := (Nat.min (List.map eGOwner y1).length 4 : Nat)) (n := 1) rfl h.1.1 rfl rfl rfl rfl) rfl) ⟨⟨rfl, trivial⟩, trivial, trivial⟩ ?_
  refine dr_cons { need := [(3, .lp 2 0)], dst := some 13, val := some (.lp 2 2) } (fun m h => step_on (guard_no rfl) (op_field_lp rfl h.1.1 Tryd_fld_26_2 rfl rfl) rfl) ⟨⟨rfl, trivial⟩, trivial, trivial⟩ ?_
  refine dr_cons { need := [(13, .lp 2 2), (12, .pv (.int .i64 (w_i64 ((Nat.min (List.map eGOwner y1).length 4 : Nat) - 1))))], hneed := [(2, .box 26 (bxv (eGType ({ ({ fKind := 2, fClass := a0.fName, fN := 0, fOwn := (⟨zGOwner, zGOwner, zGOwner, zGOwner⟩ : A4 GOwner) } : GType) with fOwn := (A4.cp (({ fKind := 2, fClass := a0.fName, fN := 0, fOwn := (⟨zGOwner, zGOwner, zGOwner, zGOwner⟩ : A4 GOwner) } : GType).fOwn) y1) } : GType))))], upd := [(2, some (.box 26 (bxv (eGType ({ ({ ({ fKind := 2, fClass := a0.fName, fN := 0, fOwn := (⟨zGOwner, zGOwner, zGOwner, zGOwner⟩ : A4 GOwner) } : GType) with fOwn := (A4.cp (({ fKind := 2, fClass := a0.fName, fN := 0, fOwn := (⟨zGOwner, zGOwner, zGOwner, zGOwner⟩ : A4 GOwner) } : GType).fOwn) y1) } : GType) with fN := w_i64 ((Nat.min (List.map eGOwner y1).length 4 : Nat) - 1) } : GType)))))] } (fun m h => step_on (guard_no rfl) (op_store_lp (n := 1) rfl h.1.1 h.1.2.1 rfl h.2.1.1 (or_one Tryd_one_3) (by rw [Tryd_one_3]; rfl) rfl rfl rfl) rfl) ⟨⟨rfl, rfl, trivial⟩, ⟨rfl, trivial⟩, trivial⟩ ?_
  refine dr_nil Tryd_mixed rfl (by kernel_rfl) ?_
  refine post_imp (s' := ⟨15, [(2, some (.lp 0 0)), (3, some (.lp 1 0))], [(0, some (.box 26 (bxv (eGType zGType)))), (1, some (.box 26 (bxv (eGType ({ ({ ({ fKind := 2, fClass := a0.fName, fN := 0, fOwn := (⟨zGOwner, zGOwner, zGOwner, zGOwner⟩ : A4 GOwner) } : GType) with fOwn := (A4.cp (({ fKind := 2, fClass := a0.fName, fN := 0, fOwn := (⟨zGOwner, zGOwner, zGOwner, zGOwner⟩ : A4 GOwner) } : GType).fOwn) y1) } : GType) with fN := w_i64 ((Nat.min (List.map eGOwner y1).length 4 : Nat) - 1) } : GType)))))], 2, [], [], 0, []⟩) (imps [1, 2] ⟨by kernel_rfl, by kernel_rfl, trivial⟩ ⟨by kernel_rfl, by kernel_rfl, trivial⟩) ?_
  refine post_next ?_
  refine aw_seq ?_
  refine aw_region ?_
  refine rgp (op_load_lp_agg (ps := eGType ({ ({ ({ fKind := 2, fClass := a0.fName, fN := 0, fOwn := (⟨zGOwner, zGOwner, zGOwner, zGOwner⟩ : A4 GOwner) } : GType) with fOwn := (A4.cp (({ fKind := 2, fClass := a0.fName, fN := 0, fOwn := (⟨zGOwner, zGOwner, zGOwner, zGOwner⟩ : A4 GOwner) } : GType).fOwn) y1) } : GType) with fN := w_i64 ((Nat.min (List.map eGOwner y1).length 4 : Nat) - 1) } : GType)) rfl rfl rfl rfl rfl rfl Tryd_agg_26 rfl rfl) ?_
  refine rgp (op_store_lp (n := 11) rfl rfl rfl rfl rfl (or_agg Tryd_agg_26) (by rw [Tryd_non_26]; rfl) rfl rfl rfl) ?_
  refine reg_nil ?_
  refine post_imp (s' := ⟨15, [(2, some (.lp 0 0))], [(0, some (.box 26 (bxv (eGType ({ ({ ({ fKind := 2, fClass := a0.fName, fN := 0, fOwn := (⟨zGOwner, zGOwner, zGOwner, zGOwner⟩ : A4 GOwner) } : GType) with fOwn := (A4.cp (({ fKind := 2, fClass := a0.fName, fN := 0, fOwn := (⟨zGOwner, zGOwner, zGOwner, zGOwner⟩ : A4 GOwner) } : GType).fOwn) y1) } : GType) with fN := w_i64 ((Nat.min (List.map eGOwner y1).length 4 : Nat) - 1) } : GType)))))], 1, [], [], 0, []⟩) (imps [0] ⟨by kernel_rfl, trivial⟩ ⟨by kernel_rfl, trivial⟩) ?_
  refine post_next ?_
  refine aw_ret ?_
  obtain rfl := Option.some.inj hF
  exact post_ret rfl rfl (.cons _ _ _ _ _ (.agg _ _ _ _ _ 11 _ _ rfl rfl Tryd_agg_26 rfl rfl rfl) (.p _) .nil) (.inl rfl)
def slices_IndexFunc_api_Var_L1 (a0 : List GVar) (q1 : GVar → Option Bool) : Nat → Int → Option (Ctl (Int) (Unit))
  | 0, _ => none
  | n + 1, x11 =>
    if (decide (x11 < (a0.length : Int))) = true then
      Option.bind (idx a0 x11) fun (y28 : GVar) =>
      Option.bind (q1 y28) fun (y30 : Bool) =>
      if y30 = true then
        some (.stop x11)
      else
        slices_IndexFunc_api_Var_L1 a0 q1 n (w_i64 (x11 + 1))
    else
      some (.next ())
def slices_IndexFunc_api_Var (a0 : List GVar) (q1 : GVar → Option Bool) : Option Int :=
  Option.bind (slices_IndexFunc_api_Var_L1 a0 q1 ((((a0.length : Int) : Int) - (0)).toNat + 1) 0) fun lr34 =>
  Ctl.elim lr34 (fun v => some v) fun _ =>
  some (-1)
theorem slices_IndexFunc_api_Var_ok {a0 : List GVar} {q1 : GVar → Option Bool} {r : Int} {q1_f : Nat} {q1_c : List PV} (q1_b : callB Tryd.prog q1_f = true) (q1_h : ∀ (x0 : GVar) (r : Bool), q1 x0 = some r → Abs.Fn globs_Tryd Tryd.prog q1_f ([.agg (eGVar x0)] ++ q1_c) [.p (.bool r)]) (hF : slices_IndexFunc_api_Var a0 q1 = some r) : Abs.Fn globs_Tryd Tryd.prog 90 [.vs 13 (List.map eGVar a0), .fn q1_f q1_c] [.p (.int .i64 r)] := by
  unfold slices_IndexFunc_api_Var at hF
  refine fn_of_body (n := 19) Tryd.func90 rfl rfl rfl ?_
  intro w O
  refine aw_seq ?_
  refine aw_region ?_
  refine ras ?_
  refine reg_nil ?_
  refine post_imp (s' := ⟨19, [(0, some (.pv (.vs 13 (List.map eGVar a0)))), (1, some (.pv (.fn q1_f q1_c)))], [], 0, [], [], 0, []⟩) (imps [] ⟨by kernel_rfl, by kernel_rfl, trivial⟩ trivial) ?_
  refine post_next ?_
  iterate 2 (refine aw_seq ?_)
  refine aw_region ?_
  refine rmv ?_
  refine rgp (op_len_vs (n := a0.length) rfl rfl (List.length_map ..) Tryd_slc_36 rfl rfl) ?_
  refine rmv ?_
  refine reg_nil ?_
  refine post_imp (s' := ⟨19, [(0, some (.pv (.vs 13 (List.map eGVar a0)))), (1, some (.pv (.fn q1_f q1_c))), (7, some (.pv (.int .i64 (a0.length : Int)))), (8, some (.pv (.int .i64 0)))], [], 0, [], [], 0, []⟩) (imps [] ⟨by kernel_rfl, by kernel_rfl, by kernel_rfl, by kernel_rfl, trivial⟩ trivial) ?_
  refine post_next ?_
  obtain ⟨lr34, hF, hK35⟩ := bind_some hF
  refine aw_for ((((a0.length : Int) : Int) - (0)).toNat + 1) (fun s1 => ∃ q, lr34 = .next q ∧ s1 = ⟨19, [], [], 0, [], [], 0, []⟩) ?_ ?_
  · refine rnd_loop (α := Int) (fun q => ⟨19, [(0, some (.pv (.vs 13 (List.map eGVar a0)))), (1, some (.pv (.fn q1_f q1_c))), (7, some (.pv (.int .i64 (a0.length : Int)))), (8, some (.pv (.int .i64 q)))], [], 0, [], [], 0, []⟩) (fun k q => slices_IndexFunc_api_Var_L1 a0 q1 k q = some lr34) 0 (imps [] ⟨by kernel_rfl, by kernel_rfl, by kernel_rfl, by kernel_rfl, trivial⟩ trivial) hF (fun q h => by cases h) ?_
    clear hF
    rintro k x11 hF ih
    refine rnd_succ ?_
    refine aw_seq ?_
    refine aw_region ?_
    refine rgp (op_int (k := .i64) (m := x11) (n := (a0.length : Int)) rfl rfl rfl rfl rfl rfl) ?_
    refine reg_nil ?_
    refine post_imp (s' := ⟨19, [(0, some (.pv (.vs 13 (List.map eGVar a0)))), (1, some (.pv (.fn q1_f q1_c))), (7, some (.pv (.int .i64 (a0.length : Int)))), (8, some (.pv (.int .i64 x11))), (9, some (.pv (.bool (decide (x11 < (a0.length : Int))))))], [], 0, [], [], 0, []⟩) (imps [] ⟨by kernel_rfl, by kernel_rfl, by kernel_rfl, by kernel_rfl, by kernel_rfl, trivial⟩ trivial) ?_
    refine post_next ?_
    refine aw_seq ?_
    rcases ite_some hF with ⟨hb23, hF⟩ | ⟨hb23, hF⟩
    · refine aw_cond_t rfl hb23 ?_
      refine aw_skip ?_
      refine post_next ?_
      refine aw_seq ?_
      refine aw_block ?_
      refine aw_seq ?_
      refine aw_region ?_
      refine rmv ?_
      refine ras ?_
      refine reg_nil ?_
      refine post_imp (s' := ⟨19, [(0, some (.pv (.vs 13 (List.map eGVar a0)))), (1, some (.pv (.fn q1_f q1_c))), (5, some (.pv (.int .i64 x11))), (7, some (.pv (.int .i64 (a0.length : Int)))), (8, some (.pv (.int .i64 x11)))], [], 0, [], [], 0, []⟩) (imps [] ⟨by kernel_rfl, by kernel_rfl, by kernel_rfl, by kernel_rfl, by kernel_rfl, trivial⟩ trivial) ?_
      refine post_next ?_
      refine aw_seq ?_
      refine aw_region ?_
      iterate 3 (refine rmv ?_)
      obtain ⟨y28, h29, hF⟩ := bind_some hF
      refine rgp (op_index_vs (k := .i64) rfl rfl rfl (idx_map eGVar h29) Tryd_slc_36 rfl rfl) ?_
      refine rgp (op_load_vp_agg (ps := eGVar y28) rfl rfl rfl rfl Tryd_agg_52 rfl rfl) ?_
      obtain ⟨y30, h31, hF⟩ := bind_some hF
      refine rgp (op_call 0 rfl (caps := q1_c) (args := [.agg (eGVar y28)]) (rs := [.p (.bool y30)]) rfl rfl rfl q1_b (q1_h y28 _ h31) rfl rfl rfl) ?_
      refine reg_nil ?_
      refine post_imp (s' := ⟨19, [(0, some (.pv (.vs 13 (List.map eGVar a0)))), (1, some (.pv (.fn q1_f q1_c))), (5, some (.pv (.int .i64 x11))), (7, some (.pv (.int .i64 (a0.length : Int)))), (8, some (.pv (.int .i64 x11))), (16, some (.pv (.bool y30)))], [], 0, [], [], 0, []⟩) (imps [] ⟨by kernel_rfl, by kernel_rfl, by kernel_rfl, by kernel_rfl, by kernel_rfl, by kernel_rfl, trivial⟩ trivial) ?_
      refine post_next ?_
      rcases ite_some hF with ⟨hb32, hF⟩ | ⟨hb32, hF⟩
      · refine aw_cond_t rfl hb32 ?_
        refine aw_seq ?_
        refine aw_region ?_
        refine rmv ?_
        refine ras ?_
        refine reg_nil ?_
        refine post_imp (s' := ⟨19, [(4, some (.pv (.int .i64 x11)))], [], 0, [], [], 0, []⟩) (imps [] ⟨by kernel_rfl, trivial⟩ trivial) ?_
        refine post_next ?_
        refine aw_ret ?_
        refine post_block_ret ?_
        iterate 2 (refine post_then_ret ?_)
        refine post_lp_ret ?_
        obtain rfl := Option.some.inj hF
        have hF := elim_stop hK35
        refine post_then_ret ?_
        obtain rfl := Option.some.inj hF
        exact prt
      refine aw_cond_f rfl hb32 ?_
      refine aw_skip ?_
      refine post_block_normal ?_
      refine post_next ?_
      refine aw_region ?_
      refine rgp (op_int (k := .i64) (m := x11) (n := 1) rfl rfl rfl rfl rfl rfl) ?_
      refine rmv ?_
      refine reg_nil ?_
      refine post_round ?_
      exact rnd_back (ih (w_i64 (x11 + 1)) hF) (imps [] ⟨by kernel_rfl, by kernel_rfl, by kernel_rfl, by kernel_rfl, trivial⟩ trivial)
    refine aw_cond_f rfl hb23 ?_
    refine aw_exit ?_
    iterate 2 (refine post_then_exit ?_)
    obtain rfl := Option.some.inj hF
    exact post_lp_break _ ⟨_, rfl, rfl⟩ (imps [] trivial trivial)
  rintro _ ⟨⟨⟩, rfl, rfl⟩
  have hF := elim_next hK35
  clear hK35
  refine post_next ?_
  refine aw_seq ?_
  refine aw_region ?_
  refine ras ?_
  refine reg_nil ?_
  refine post_imp (s' := ⟨19, [(4, some (.pv (.int .i64 (-1))))], [], 0, [], [], 0, []⟩) (imps [] ⟨by kernel_rfl, trivial⟩ trivial) ?_
  refine post_next ?_
  refine aw_ret ?_
  obtain rfl := Option.some.inj hF
  exact prt
def scope_Place_1 (a0 : GVar) (c0 : List UInt8) : Option Bool :=
  some (a0.fName == c0)
theorem scope_Place_1_ok {a0 : GVar} {c0 : List UInt8} {r : Bool} (hF : scope_Place_1 a0 c0 = some r) : Abs.Fn globs_Tryd Tryd.prog 89 [.agg (eGVar a0), .vp (eS c0)] [.p (.bool r)] := by
  unfold scope_Place_1 at hF
  refine fn_of_body (n := 8) Tryd.func89 rfl rfl rfl ?_
  intro w O
  refine aw_seq ?_
  refine aw_region ?_
  refine rgp (op_box 0 rfl rfl rfl rfl rfl rfl) ?_
  refine ras ?_
  refine reg_nil ?_
  refine post_imp (s' := ⟨8, [(1, some (.pv (.vp (eS c0)))), (2, some (.lp 0 0))], [(0, some (.box 52 (bxv (eGVar a0))))], 1, [], [], 0, []⟩) (imps [0] ⟨by kernel_rfl, by kernel_rfl, trivial⟩ ⟨by kernel_rfl, trivial⟩) ?_
  refine post_next ?_
  refine aw_seq ?_
  refine aw_region ?_
  refine rgp (op_field_lp rfl rfl Tryd_fld_52_0 rfl rfl) ?_
  refine rgp (op_load_lp (v := .pv (.str a0.fName)) rfl rfl rfl rfl Tryd_one_9 rfl rfl) ?_
  refine rgp (op_load_vp (p := .str c0) rfl rfl rfl Tryd_one_9 rfl rfl) ?_
  refine rgp (op_str rfl rfl rfl rfl rfl rfl) ?_
  refine ras ?_
  refine reg_nil ?_
  refine post_imp (s' := ⟨8, [(3, some (.pv (.bool (a0.fName == c0))))], [], 0, [], [], 0, []⟩) (imps [] ⟨by kernel_rfl, trivial⟩ trivial) ?_
  refine post_next ?_
  refine aw_ret ?_
  obtain rfl := Option.some.inj hF
  exact prt
def scope_Place (a0 : GMethod) (a1 : List UInt8) : Option Int :=
  Option.bind (slices_IndexFunc_api_Var a0.fParams (fun (z4 : GVar) => scope_Place_1 z4 a1)) fun (y5 : Int) =>
  if (decide (y5 ≥ 0)) = true then
    some y5
  else
    Option.bind (slices_IndexFunc_api_Var a0.fLocals (fun (z11 : GVar) => scope_Place_1 z11 a1)) fun (y12 : Int) =>
    if (decide (y12 < 0)) = true then
      some (-1)
    else
      some (w_i64 ((a0.fParams.length : Int) + y12))
theorem scope_Place_ok {a0 : GMethod} {a1 : List UInt8} {r : Int} (hF : scope_Place a0 a1 = some r) : Abs.Fn globs_Tryd Tryd.prog 65 [.agg (eGMethod a0), .str a1] [.p (.int .i64 r)] := by
  unfold scope_Place at hF
  refine fn_of_body (n := 27) Tryd.func65 rfl rfl rfl ?_
  intro w O
  refine aw_seq ?_
  refine aw_region ?_
  refine rgp (op_box 0 rfl rfl rfl rfl rfl rfl) ?_
  refine rgp (op_box 1 rfl rfl rfl rfl rfl rfl) ?_
  refine ras ?_
  refine reg_nil ?_
  refine post_imp (s' := ⟨27, [(2, some (.lp 0 0)), (3, some (.lp 1 0))], [(0, some (.box 42 (bxv (eGMethod a0)))), (1, some (.box 9 [.pv (.str a1)]))], 2, [], [], 0, []⟩) (imps [0, 1] ⟨by kernel_rfl, by kernel_rfl, trivial⟩ ⟨by kernel_rfl, by kernel_rfl, trivial⟩) ?_
  refine post_next ?_
  refine aw_seq ?_
  refine aw_region ?_
  refine rgp (op_makeFunc rfl rfl rfl rfl) ?_
  refine ras ?_
  refine reg_nil ?_
  refine post_imp (s' := ⟨27, [(2, some (.lp 0 0)), (5, some (.fn 89 [.lp 1 0]))], [(0, some (.box 42 (bxv (eGMethod a0)))), (1, some (.box 9 [.pv (.str a1)]))], 2, [], [], 0, []⟩) (imps [0, 1] ⟨by kernel_rfl, by kernel_rfl, trivial⟩ ⟨by kernel_rfl, by kernel_rfl, trivial⟩) ?_
  refine post_next ?_
  iterate 2 (refine aw_seq ?_)
  refine aw_region ?_
  refine rgp (op_field_lp rfl rfl Tryd_fld_42_3 rfl rfl) ?_
  refine rgp (op_load_lp (v := .pv (.vs 13 (List.map eGVar a0.fParams))) rfl rfl rfl rfl Tryd_one_36 rfl rfl) ?_
  refine rmv ?_
  obtain ⟨y5, h6, hF⟩ := bind_some hF
  refine rgp (op_callB 2 rfl (caps := []) (args := [.vs 13 (List.map eGVar a0.fParams), .fn 89 [.vp (eS a1)]]) [(1, some (.box 9 [.pv (.str a1)]))] rfl rfl rfl (FzH.spec ⟨rfl, trivial⟩) rfl rfl Tryd_cal_90 (slices_IndexFunc_api_Var_ok (q1_f := 89) (q1_c := [.vp (eS a1)]) (q1_b := Tryd_cal_89) (q1_h := fun _ r h => (scope_Place_1_ok h)) h6) rfl rfl rfl) ?_
  refine ras ?_
  refine reg_nil ?_
  refine post_imp (s' := ⟨27, [(2, some (.lp 0 0)), (5, some (.fn 89 [.lp 1 0])), (6, some (.pv (.int .i64 y5)))], [(0, some (.box 42 (bxv (eGMethod a0)))), (1, some (.box 9 [.pv (.str a1)]))], 2, [], [], 0, []⟩) (imps [0, 1] ⟨by kernel_rfl, by kernel_rfl, by kernel_rfl, trivial⟩ ⟨by kernel_rfl, by kernel_rfl, trivial⟩) ?_
  refine post_next ?_
  refine aw_seq ?_
  refine aw_region ?_
  refine rmv ?_
  refine rgp (op_int (k := .i64) (m := y5) (n := 0) rfl rfl rfl rfl rfl rfl) ?_
  refine reg_nil ?_
  refine post_imp (s' := ⟨27, [(2, some (.lp 0 0)), (5, some (.fn 89 [.lp 1 0])), (6, some (.pv (.int .i64 y5))), (14, some (.pv (.bool (decide (y5 ≥ 0)))))], [(0, some (.box 42 (bxv (eGMethod a0)))), (1, some (.box 9 [.pv (.str a1)]))], 2, [], [], 0, []⟩) (imps [0, 1] ⟨by kernel_rfl, by kernel_rfl, by kernel_rfl, by kernel_rfl, trivial⟩ ⟨by kernel_rfl, by kernel_rfl, trivial⟩) ?_
  refine post_next ?_
  rcases ite_some hF with ⟨hb7, hF⟩ | ⟨hb7, hF⟩
  · refine aw_cond_t rfl hb7 ?_
    refine aw_seq ?_
    refine aw_region ?_
    refine rmv ?_
    refine ras ?_
    refine reg_nil ?_
    refine post_imp (s' := ⟨27, [(4, some (.pv (.int .i64 y5)))], [], 0, [], [], 0, []⟩) (imps [] ⟨by kernel_rfl, trivial⟩ trivial) ?_
    refine post_next ?_
    refine aw_ret ?_
    refine post_then_ret ?_
    obtain rfl := Option.some.inj hF
    exact prt
  refine aw_cond_f rfl hb7 ?_
  refine aw_skip ?_
  refine post_next ?_
  refine aw_seq ?_
  refine aw_region ?_
  refine rgp (op_field_lp rfl rfl Tryd_fld_42_4 rfl rfl) ?_
  refine rgp (op_load_lp (v := .pv (.vs 13 (List.map eGVar a0.fLocals))) rfl rfl rfl rfl Tryd_one_36 rfl rfl) ?_
  refine rmv ?_
  obtain ⟨y12, h13, hF⟩ := bind_some hF
  refine rgp (op_callB 2 rfl (caps := []) (args := [.vs 13 (List.map eGVar a0.fLocals), .fn 89 [.vp (eS a1)]]) [(1, some (.box 9 [.pv (.str a1)]))] rfl rfl rfl (FzH.spec ⟨rfl, trivial⟩) rfl rfl Tryd_cal_90 (slices_IndexFunc_api_Var_ok (q1_f := 89) (q1_c := [.vp (eS a1)]) (q1_b := Tryd_cal_89) (q1_h := fun _ r h => (scope_Place_1_ok h)) h13) rfl rfl rfl) ?_
  refine ras ?_
  refine reg_nil ?_
  refine post_imp (s' := ⟨27, [(2, some (.lp 0 0)), (7, some (.pv (.int .i64 y12)))], [(0, some (.box 42 (bxv (eGMethod a0))))], 1, [], [], 0, []⟩) (imps [0] ⟨by kernel_rfl, by kernel_rfl, trivial⟩ ⟨by kernel_rfl, trivial⟩) ?_
  refine post_next ?_
  iterate 2 (refine aw_seq ?_)
  refine aw_region ?_
  refine rmv ?_
  refine rgp (op_int (k := .i64) (m := y12) (n := 0) rfl rfl rfl rfl rfl rfl) ?_
  refine reg_nil ?_
  refine post_imp (s' := ⟨27, [(2, some (.lp 0 0)), (7, some (.pv (.int .i64 y12))), (21, some (.pv (.bool (decide (y12 < 0)))))], [(0, some (.box 42 (bxv (eGMethod a0))))], 1, [], [], 0, []⟩) (imps [0] ⟨by kernel_rfl, by kernel_rfl, by kernel_rfl, trivial⟩ ⟨by kernel_rfl, trivial⟩) ?_
  refine post_next ?_
  rcases ite_some hF with ⟨hb14, hF⟩ | ⟨hb14, hF⟩
  · refine aw_cond_t rfl hb14 ?_
    refine aw_seq ?_
    refine aw_region ?_
    refine ras ?_
    refine reg_nil ?_
    refine post_imp (s' := ⟨27, [(4, some (.pv (.int .i64 (-1))))], [], 0, [], [], 0, []⟩) (imps [] ⟨by kernel_rfl, trivial⟩ trivial) ?_
    refine post_next ?_
    refine aw_ret ?_
    refine post_then_ret ?_
    obtain rfl := Option.some.inj hF
    exact prt
  refine aw_cond_f rfl hb14 ?_
  refine aw_skip ?_
  refine post_next ?_
  refine aw_seq ?_
  refine aw_region ?_
  refine rgp (op_field_lp rfl rfl Tryd_fld_42_3 rfl rfl) ?_
  refine rgp (op_load_lp (v := .pv (.vs 13 (List.map eGVar a0.fParams))) rfl rfl rfl rfl Tryd_one_36 rfl rfl) ?_
  refine rgp (op_len_vs (n := a0.fParams.length) rfl rfl (List.length_map ..) Tryd_slc_36 rfl rfl) ?_
  refine rmv ?_
  refine rgp (op_int (k := .i64) (m := (a0.fParams.length : Int)) (n := y12) rfl rfl rfl rfl rfl rfl) ?_
  refine ras ?_
  refine reg_nil ?_
  refine post_imp (s' := ⟨27, [(4, some (.pv (.int .i64 (w_i64 ((a0.fParams.length : Int) + y12)))))], [], 0, [], [], 0, []⟩) (imps [] ⟨by kernel_rfl, trivial⟩ trivial) ?_
  refine post_next ?_
  refine aw_ret ?_
  obtain rfl := Option.some.inj hF
  exact prt
def slices_Grow_api_Var (a1 : Int) : Option (List GVar) :=
  if (decide (a1 < 0)) = true then
    none
  else
    if (decide ((w_i64 (a1 - (w_i64 (0 - 0)))) > 0)) = true then
      Option.bind (zerOk (w_i64 (a1 - (w_i64 (0 - 0)))) 120) fun (u3 : Unit) =>
      Option.bind (cutL (List.replicate (w_i64 (a1 - (w_i64 (0 - 0))) : Int).toNat zGVar) 0 0) fun (y5 : List GVar) =>
      some y5
    else
      some []
theorem slices_Grow_api_Var_ok {a1 : Int} {r : (List GVar)} (hF : slices_Grow_api_Var a1 = some r) : Abs.Fn globs_Tryd Tryd.prog 104 [.nils, .int .i64 a1] [.own 52 13 (List.map eGVar r)] := by
  unfold slices_Grow_api_Var at hF
  refine fn_of_body (n := 27) Tryd.func104 rfl rfl rfl ?_
  intro w O
  refine aw_seq ?_
  refine aw_region ?_
  refine ras ?_
  refine reg_imp (imp_nil_own 4 52 13 0 rfl rfl) ?_
  refine reg_nil ?_
  refine post_imp (s' := ⟨27, [(0, some (.pv .nils)), (1, some (.pv (.int .i64 a1)))], [], 0, [], [], 0, []⟩) (imps [] ⟨by kernel_rfl, by kernel_rfl, trivial⟩ trivial) ?_
  refine post_next ?_
  iterate 2 (refine aw_seq ?_)
  refine aw_region ?_
  refine rmv ?_
  refine rgp (op_int (k := .i64) (m := a1) (n := 0) rfl rfl rfl rfl rfl rfl) ?_
  refine reg_nil ?_
  refine post_imp (s' := ⟨27, [(0, some (.pv .nils)), (1, some (.pv (.int .i64 a1))), (6, some (.pv (.bool (decide (a1 < 0)))))], [], 0, [], [], 0, []⟩) (imps [] ⟨by kernel_rfl, by kernel_rfl, by kernel_rfl, trivial⟩ trivial) ?_
  refine post_next ?_
  rcases ite_some hF with ⟨hb1, hF⟩ | ⟨hb1, hF⟩
  · refine aw_cond_t rfl hb1 ?_
    cases hF
  refine aw_cond_f rfl hb1 ?_
  refine aw_skip ?_
  refine post_next ?_
  iterate 2 (refine aw_seq ?_)
  refine aw_region ?_
  iterate 2 (refine rmv ?_)
  refine rgp (op_cap_nils rfl rfl Tryd_slc_36 rfl rfl) ?_
  refine rmv ?_
  refine rgp (op_len_nils rfl rfl Tryd_slc_36 rfl rfl) ?_
  refine rgp (op_int (k := .i64) (m := 0) (n := 0) rfl rfl rfl rfl rfl rfl) ?_
  refine rgp (op_int (k := .i64) (m := a1) (n := w_i64 (0 - 0)) rfl rfl rfl rfl rfl rfl) ?_
  refine ras ?_
  refine reg_nil ?_
  refine post_imp (s' := ⟨27, [(0, some (.pv .nils)), (1, some (.pv (.int .i64 (w_i64 (a1 - (w_i64 (0 - 0)))))))], [], 0, [], [], 0, []⟩) (imps [] ⟨by kernel_rfl, by kernel_rfl, trivial⟩ trivial) ?_
  refine post_next ?_
  refine aw_seq ?_
  refine aw_region ?_
  refine rmv ?_
  refine rgp (op_int (k := .i64) (m := w_i64 (a1 - (w_i64 (0 - 0)))) (n := 0) rfl rfl rfl rfl rfl rfl) ?_
  refine reg_nil ?_
  refine post_imp (s' := ⟨27, [(0, some (.pv .nils)), (1, some (.pv (.int .i64 (w_i64 (a1 - (w_i64 (0 - 0))))))), (16, some (.pv (.bool (decide ((w_i64 (a1 - (w_i64 (0 - 0)))) > 0)))))], [], 0, [], [], 0, []⟩) (imps [] ⟨by kernel_rfl, by kernel_rfl, by kernel_rfl, trivial⟩ trivial) ?_
  refine post_next ?_
  rcases ite_some hF with ⟨hb2, hF⟩ | ⟨hb2, hF⟩
  · refine aw_cond_t rfl hb2 ?_
    refine aw_region ?_
    iterate 2 (refine rmv ?_)
    refine rgp (op_cap_nils rfl rfl Tryd_slc_36 rfl rfl) ?_
    refine rgp (op_slice_nils rfl rfl rfl Tryd_slc_36 rfl rfl) ?_
    refine rmv ?_
    obtain ⟨u3, h4, hF⟩ := bind_some hF
    refine rgp (op_append_zeros 0 rfl (k := .i64) (n := w_i64 (a1 - (w_i64 (0 - 0)))) (zs := eGVar zGVar) rfl rfl rfl (zerOk_spec h4).1 (zerOk_spec h4).2 Tryd_slc_36 Tryd_und_3 Tryd_elm_52 rfl Tryd_zer_52 (by exact ⟨rfl, rfl, rfl, rfl, rfl, rfl, rfl, rfl, rfl, rfl, rfl, rfl, rfl, trivial⟩) rfl rfl (map_rep eGVar _ _) rfl rfl) ?_
    refine rmv ?_
    refine rgp (op_len_nils rfl rfl Tryd_slc_36 rfl rfl) ?_
    obtain ⟨y5, h6, hF⟩ := bind_some hF
    refine rgp (op_slice_own 1 rfl rfl rfl rfl rfl Tryd_slc_36 (cutL_map eGVar h6) rfl rfl) ?_
    refine ras ?_
    refine reg_nil ?_
    refine post_imp (s' := ⟨27, [(0, some (.ls 0))], [(0, some (.row 52 13 (List.map eGVar y5)))], 1, [], [], 0, []⟩) (imps [1] ⟨by kernel_rfl, trivial⟩ ⟨by kernel_rfl, trivial⟩) ?_
    refine post_next ?_
    refine aw_seq ?_
    refine aw_region ?_
    refine rmv ?_
    refine ras ?_
    refine reg_nil ?_
    refine post_imp (s' := ⟨27, [(4, some (.ls 0))], [(0, some (.row 52 13 (List.map eGVar y5)))], 1, [], [], 0, []⟩) (imps [0] ⟨by kernel_rfl, trivial⟩ ⟨by kernel_rfl, trivial⟩) ?_
    refine post_next ?_
    refine aw_ret ?_
    obtain rfl := Option.some.inj hF
    exact post_ret rfl rfl (.cons _ _ _ _ _ (.tmp _ _ rfl) (.own _ _ _ _ rfl nolent3) .nil) (.inl rfl)
  refine aw_cond_f rfl hb2 ?_
  refine aw_skip ?_
  refine post_next ?_
  refine aw_seq ?_
  refine aw_region ?_
  refine rmv ?_
  refine reg_imp (imp_nil_own 26 52 13 0 rfl rfl) ?_
  refine ras ?_
  refine reg_nil ?_
  refine post_imp (s' := ⟨27, [(4, some (.ls 0))], [(0, some (.row 52 13 (List.map eGVar [])))], 1, [], [], 0, []⟩) (imps [0] ⟨by kernel_rfl, trivial⟩ ⟨by kernel_rfl, trivial⟩) ?_
  refine post_next ?_
  refine aw_ret ?_
  obtain rfl := Option.some.inj hF
  exact post_ret rfl rfl (.cons _ _ _ _ _ (.tmp _ _ rfl) (.own _ _ _ _ rfl nolent3) .nil) (.inl rfl)
def slices_Concat_api_Var_L1 (a0 : List (List GVar)) : Nat → Int → Int → Option (Int)
  | 0, _, _ => none
  | n + 1, x7, x8 =>
    if (decide (x8 < (a0.length : Int))) = true then
      Option.bind (idx a0 x8) fun (y20 : List GVar) =>
      if (decide ((w_i64 (x7 + (y20.length : Int))) < 0)) = true then
        none
      else
        slices_Concat_api_Var_L1 a0 n (w_i64 (x7 + (y20.length : Int))) (w_i64 (x8 + 1))
    else
      some x7
def slices_Concat_api_Var_L2 (a0 : List (List GVar)) : Nat → (List GVar) → Int → Option ((List GVar))
  | 0, _, _ => none
  | n + 1, x40, x41 =>
    if (decide (x41 < (a0.length : Int))) = true then
      Option.bind (idx a0 x41) fun (y56 : List GVar) =>
      Option.bind (room ((x40.length : Int) + (y56.length : Int)) 120) fun (u60 : Unit) =>
      slices_Concat_api_Var_L2 a0 n (x40 ++ y56) (w_i64 (x41 + 1))
    else
      some x40
def slices_Concat_api_Var (a0 : List (List GVar)) : Option (List GVar) :=
  Option.bind (slices_Concat_api_Var_L1 a0 ((((a0.length : Int) : Int) - (0)).toNat + 1) 0 0) fun x25 =>
  Option.bind (slices_Grow_api_Var x25) fun (y29 : (List GVar)) =>
  Option.bind (slices_Concat_api_Var_L2 a0 ((((a0.length : Int) : Int) - (0)).toNat + 1) y29 0) fun x64 =>
  some x64
theorem slices_Concat_api_Var_ok {a0 : List (List GVar)} {r : (List GVar)} (hF : slices_Concat_api_Var a0 = some r) : Abs.Fn globs_Tryd Tryd.prog 91 [.vs 1 (List.map (eL 13 eGVar) a0)] [.own 52 13 (List.map eGVar r)] := by
  unfold slices_Concat_api_Var at hF
  refine fn_of_body (n := 36) Tryd.func91 rfl rfl rfl ?_
  intro w O
  refine aw_seq ?_
  refine aw_region ?_
  refine ras ?_
  refine reg_nil ?_
  refine post_imp (s' := ⟨36, [(0, some (.pv (.vs 1 (List.map (eL 13 eGVar) a0))))], [], 0, [], [], 0, []⟩) (imps [] ⟨by kernel_rfl, trivial⟩ trivial) ?_
  refine post_next ?_
  refine aw_seq ?_
  refine aw_region ?_
  refine ras ?_
  refine reg_nil ?_
  refine post_imp (s' := ⟨36, [(0, some (.pv (.vs 1 (List.map (eL 13 eGVar) a0)))), (3, some (.pv (.int .i64 0)))], [], 0, [], [], 0, []⟩) (imps [] ⟨by kernel_rfl, by kernel_rfl, trivial⟩ trivial) ?_
  refine post_next ?_
  iterate 2 (refine aw_seq ?_)
  refine aw_region ?_
  refine rmv ?_
  refine rgp (op_len_vs (n := a0.length) rfl rfl (List.length_map ..) Tryd_slc_126 rfl rfl) ?_
  refine rmv ?_
  refine reg_nil ?_
  refine post_imp (s' := ⟨36, [(0, some (.pv (.vs 1 (List.map (eL 13 eGVar) a0)))), (3, some (.pv (.int .i64 0))), (9, some (.pv (.vs 1 (List.map (eL 13 eGVar) a0)))), (10, some (.pv (.int .i64 (a0.length : Int)))), (11, some (.pv (.int .i64 0)))], [], 0, [], [], 0, []⟩) (imps [] ⟨by kernel_rfl, by kernel_rfl, by kernel_rfl, by kernel_rfl, by kernel_rfl, trivial⟩ trivial) ?_
  refine post_next ?_
  obtain ⟨x25, hF, hK26⟩ := bind_some hF
  refine aw_for ((((a0.length : Int) : Int) - (0)).toNat + 1) (fun s1 => s1 = ⟨36, [(0, some (.pv (.vs 1 (List.map (eL 13 eGVar) a0)))), (3, some (.pv (.int .i64 x25)))], [], 0, [], [], 0, []⟩) ?_ ?_
  · refine rnd_loop (α := Int × Int) (fun q => ⟨36, [(0, some (.pv (.vs 1 (List.map (eL 13 eGVar) a0)))), (3, some (.pv (.int .i64 q.1))), (9, some (.pv (.vs 1 (List.map (eL 13 eGVar) a0)))), (10, some (.pv (.int .i64 (a0.length : Int)))), (11, some (.pv (.int .i64 q.2)))], [], 0, [], [], 0, []⟩) (fun k q => slices_Concat_api_Var_L1 a0 k q.1 q.2 = some x25) (0, 0) (imps [] ⟨by kernel_rfl, by kernel_rfl, by kernel_rfl, by kernel_rfl, by kernel_rfl, trivial⟩ trivial) hF (fun q h => by cases h) ?_
    clear hF
    rintro k ⟨x7, x8⟩ hF ih
    refine rnd_succ ?_
    refine aw_seq ?_
    refine aw_region ?_
    refine rgp (op_int (k := .i64) (m := x8) (n := (a0.length : Int)) rfl rfl rfl rfl rfl rfl) ?_
    refine reg_nil ?_
    refine post_imp (s' := ⟨36, [(0, some (.pv (.vs 1 (List.map (eL 13 eGVar) a0)))), (3, some (.pv (.int .i64 x7))), (9, some (.pv (.vs 1 (List.map (eL 13 eGVar) a0)))), (10, some (.pv (.int .i64 (a0.length : Int)))), (11, some (.pv (.int .i64 x8))), (12, some (.pv (.bool (decide (x8 < (a0.length : Int))))))], [], 0, [], [], 0, []⟩) (imps [] ⟨by kernel_rfl, by kernel_rfl, by kernel_rfl, by kernel_rfl, by kernel_rfl, by kernel_rfl, trivial⟩ trivial) ?_
    refine post_next ?_
    refine aw_seq ?_
    rcases ite_some hF with ⟨hb17, hF⟩ | ⟨hb17, hF⟩
    · refine aw_cond_t rfl hb17 ?_
      refine aw_skip ?_
      refine post_next ?_
      refine aw_seq ?_
      refine aw_block ?_
      refine aw_seq ?_
      refine aw_region ?_
      obtain ⟨y20, h21, hF⟩ := bind_some hF
      refine rgp (op_index_vs (k := .i64) rfl rfl rfl (idx_map (eL 13 eGVar) h21) Tryd_slc_126 rfl rfl) ?_
      refine rgp (op_load_vp (p := .vs 13 (List.map eGVar y20)) rfl rfl rfl Tryd_one_36 rfl rfl) ?_
      refine ras ?_
      refine reg_nil ?_
      refine post_imp (s' := ⟨36, [(0, some (.pv (.vs 1 (List.map (eL 13 eGVar) a0)))), (3, some (.pv (.int .i64 x7))), (5, some (.pv (.vs 13 (List.map eGVar y20)))), (9, some (.pv (.vs 1 (List.map (eL 13 eGVar) a0)))), (10, some (.pv (.int .i64 (a0.length : Int)))), (11, some (.pv (.int .i64 x8)))], [], 0, [], [], 0, []⟩) (imps [] ⟨by kernel_rfl, by kernel_rfl, by kernel_rfl, by kernel_rfl, by kernel_rfl, by kernel_rfl, trivial⟩ trivial) ?_
      refine post_next ?_
      refine aw_seq ?_
      refine aw_region ?_
      iterate 2 (refine rmv ?_)
      refine rgp (op_len_vs (n := y20.length) rfl rfl (List.length_map ..) Tryd_slc_36 rfl rfl) ?_
      refine rgp (op_int (k := .i64) (m := x7) (n := (y20.length : Int)) rfl rfl rfl rfl rfl rfl) ?_
      refine ras ?_
      refine reg_nil ?_
      refine post_imp (s' := ⟨36, [(0, some (.pv (.vs 1 (List.map (eL 13 eGVar) a0)))), (3, some (.pv (.int .i64 (w_i64 (x7 + (y20.length : Int)))))), (9, some (.pv (.vs 1 (List.map (eL 13 eGVar) a0)))), (10, some (.pv (.int .i64 (a0.length : Int)))), (11, some (.pv (.int .i64 x8)))], [], 0, [], [], 0, []⟩) (imps [] ⟨by kernel_rfl, by kernel_rfl, by kernel_rfl, by kernel_rfl, by kernel_rfl, trivial⟩ trivial) ?_
      refine post_next ?_
      refine aw_seq ?_
      refine aw_region ?_
      refine rmv ?_
      refine rgp (op_int (k := .i64) (m := w_i64 (x7 + (y20.length : Int))) (n := 0) rfl rfl rfl rfl rfl rfl) ?_
      refine reg_nil ?_
      refine post_imp (s' := ⟨36, [(0, some (.pv (.vs 1 (List.map (eL 13 eGVar) a0)))), (3, some (.pv (.int .i64 (w_i64 (x7 + (y20.length : Int)))))), (9, some (.pv (.vs 1 (List.map (eL 13 eGVar) a0)))), (10, some (.pv (.int .i64 (a0.length : Int)))), (11, some (.pv (.int .i64 x8))), (20, some (.pv (.bool (decide ((w_i64 (x7 + (y20.length : Int))) < 0)))))], [], 0, [], [], 0, []⟩) (imps [] ⟨by kernel_rfl, by kernel_rfl, by kernel_rfl, by kernel_rfl, by kernel_rfl, by kernel_rfl, trivial⟩ trivial) ?_
      refine post_next ?_
      rcases ite_some hF with ⟨hb22, hF⟩ | ⟨hb22, hF⟩
      · refine aw_cond_t rfl hb22 ?_
        cases hF
      refine aw_cond_f rfl hb22 ?_
      refine aw_skip ?_
      refine post_block_normal ?_
      refine post_next ?_
      refine aw_region ?_
      refine rgp (op_int (k := .i64) (m := x8) (n := 1) rfl rfl rfl rfl rfl rfl) ?_
      refine rmv ?_
      refine reg_nil ?_
      refine post_round ?_
      exact rnd_back (ih (w_i64 (x7 + (y20.length : Int)), w_i64 (x8 + 1)) hF) (imps [] ⟨by kernel_rfl, by kernel_rfl, by kernel_rfl, by kernel_rfl, by kernel_rfl, trivial⟩ trivial)
    refine aw_cond_f rfl hb17 ?_
    refine aw_exit ?_
    iterate 2 (refine post_then_exit ?_)
    obtain rfl := Option.some.inj hF
    exact post_lp_break _ rfl (imps [] ⟨by kernel_rfl, by kernel_rfl, trivial⟩ trivial)
  rintro _ rfl
  have hF := hK26
  clear hK26
  refine post_next ?_
  refine aw_seq ?_
  refine aw_region ?_
  refine rmv ?_
  obtain ⟨y29, h30, hF⟩ := bind_some hF
  refine rgp (op_call 0 rfl (caps := []) (args := [.nils, .int .i64 x25]) (rs := [.own 52 13 (List.map eGVar y29)]) rfl rfl rfl Tryd_cal_104 (slices_Grow_api_Var_ok h30) rfl rfl rfl) ?_
  refine ras ?_
  refine reg_nil ?_
  refine post_imp (s' := ⟨36, [(0, some (.pv (.vs 1 (List.map (eL 13 eGVar) a0)))), (6, some (.ls 0))], [(0, some (.row 52 13 (List.map eGVar y29)))], 1, [], [], 0, []⟩) (imps [0] ⟨by kernel_rfl, by kernel_rfl, trivial⟩ ⟨by kernel_rfl, trivial⟩) ?_
  refine post_next ?_
  iterate 2 (refine aw_seq ?_)
  refine aw_region ?_
  refine rmv ?_
  refine rgp (op_len_vs (n := a0.length) rfl rfl (List.length_map ..) Tryd_slc_126 rfl rfl) ?_
  refine rmv ?_
  refine reg_nil ?_
  refine post_imp (s' := ⟨36, [(6, some (.ls 0)), (25, some (.pv (.vs 1 (List.map (eL 13 eGVar) a0)))), (26, some (.pv (.int .i64 (a0.length : Int)))), (27, some (.pv (.int .i64 0)))], [(0, some (.row 52 13 (List.map eGVar y29)))], 1, [], [], 0, []⟩) (imps [0] ⟨by kernel_rfl, by kernel_rfl, by kernel_rfl, by kernel_rfl, trivial⟩ ⟨by kernel_rfl, trivial⟩) ?_
  refine post_next ?_
  obtain ⟨x64, hF, hK65⟩ := bind_some hF
  refine aw_for ((((a0.length : Int) : Int) - (0)).toNat + 1) (fun s1 => s1 = ⟨36, [(6, some (.ls 0))], [(0, some (.row 52 13 (List.map eGVar x64)))], 1, [], [], 0, []⟩) ?_ ?_
  · refine rnd_loop (α := (List GVar) × Int) (fun q => ⟨36, [(6, some (.ls 0)), (25, some (.pv (.vs 1 (List.map (eL 13 eGVar) a0)))), (26, some (.pv (.int .i64 (a0.length : Int)))), (27, some (.pv (.int .i64 q.2)))], [(0, some (.row 52 13 (List.map eGVar q.1)))], 1, [], [], 0, []⟩) (fun k q => slices_Concat_api_Var_L2 a0 k q.1 q.2 = some x64) (y29, 0) (imps [0] ⟨by kernel_rfl, by kernel_rfl, by kernel_rfl, by kernel_rfl, trivial⟩ ⟨by kernel_rfl, trivial⟩) hF (fun q h => by cases h) ?_
    clear hF
    rintro k ⟨x40, x41⟩ hF ih
    refine rnd_succ ?_
    refine aw_seq ?_
    refine aw_region ?_
    refine rgp (op_int (k := .i64) (m := x41) (n := (a0.length : Int)) rfl rfl rfl rfl rfl rfl) ?_
    refine reg_nil ?_
    refine post_imp (s' := ⟨36, [(6, some (.ls 0)), (25, some (.pv (.vs 1 (List.map (eL 13 eGVar) a0)))), (26, some (.pv (.int .i64 (a0.length : Int)))), (27, some (.pv (.int .i64 x41))), (28, some (.pv (.bool (decide (x41 < (a0.length : Int))))))], [(0, some (.row 52 13 (List.map eGVar x40)))], 1, [], [], 0, []⟩) (imps [0] ⟨by kernel_rfl, by kernel_rfl, by kernel_rfl, by kernel_rfl, by kernel_rfl, trivial⟩ ⟨by kernel_rfl, trivial⟩) ?_
    refine post_next ?_
    refine aw_seq ?_
    rcases ite_some hF with ⟨hb53, hF⟩ | ⟨hb53, hF⟩
    · refine aw_cond_t rfl hb53 ?_
      refine aw_skip ?_
      refine post_next ?_
      refine aw_seq ?_
      refine aw_block ?_
      refine aw_seq ?_
      refine aw_region ?_
      obtain ⟨y56, h57, hF⟩ := bind_some hF
      refine rgp (op_index_vs (k := .i64) rfl rfl rfl (idx_map (eL 13 eGVar) h57) Tryd_slc_126 rfl rfl) ?_
      refine rgp (op_load_vp (p := .vs 13 (List.map eGVar y56)) rfl rfl rfl Tryd_one_36 rfl rfl) ?_
      refine ras ?_
      refine reg_nil ?_
      refine post_imp (s' := ⟨36, [(6, some (.ls 0)), (8, some (.pv (.vs 13 (List.map eGVar y56)))), (25, some (.pv (.vs 1 (List.map (eL 13 eGVar) a0)))), (26, some (.pv (.int .i64 (a0.length : Int)))), (27, some (.pv (.int .i64 x41)))], [(0, some (.row 52 13 (List.map eGVar x40)))], 1, [], [], 0, []⟩) (imps [0] ⟨by kernel_rfl, by kernel_rfl, by kernel_rfl, by kernel_rfl, by kernel_rfl, trivial⟩ ⟨by kernel_rfl, trivial⟩) ?_
      refine post_next ?_
      refine aw_region ?_
      iterate 2 (refine rmv ?_)
      obtain ⟨u60, h61, hF⟩ := bind_some hF
      refine rgp (op_append 1 rfl rfl rfl rfl rfl Tryd_slc_36 Tryd_elm_52 Tryd_zer_52 rfl rfl rfl (room_map (f := eGVar) (g := eGVar) h61) (List.map_append (f := eGVar) (l₁ := x40) (l₂ := y56)).symm rfl rfl) ?_
      refine ras ?_
      refine reg_nil ?_
      refine post_imp (s' := ⟨36, [(6, some (.ls 0)), (25, some (.pv (.vs 1 (List.map (eL 13 eGVar) a0)))), (26, some (.pv (.int .i64 (a0.length : Int)))), (27, some (.pv (.int .i64 x41)))], [(0, some (.row 52 13 (List.map eGVar (x40 ++ y56))))], 1, [], [], 0, []⟩) (imps [1] ⟨by kernel_rfl, by kernel_rfl, by kernel_rfl, by kernel_rfl, trivial⟩ ⟨by kernel_rfl, trivial⟩) ?_
      refine post_block_normal ?_
      refine post_next ?_
      refine aw_region ?_
      refine rgp (op_int (k := .i64) (m := x41) (n := 1) rfl rfl rfl rfl rfl rfl) ?_
      refine rmv ?_
      refine reg_nil ?_
      refine post_round ?_
      exact rnd_back (ih ((x40 ++ y56), w_i64 (x41 + 1)) hF) (imps [0] ⟨by kernel_rfl, by kernel_rfl, by kernel_rfl, by kernel_rfl, trivial⟩ ⟨by kernel_rfl, trivial⟩)
    refine aw_cond_f rfl hb53 ?_
    refine aw_exit ?_
    iterate 2 (refine post_then_exit ?_)
    obtain rfl := Option.some.inj hF
    exact post_lp_break _ rfl (imps [0] ⟨by kernel_rfl, trivial⟩ ⟨by kernel_rfl, trivial⟩)
  rintro _ rfl
  have hF := hK65
  clear hK65
  refine post_next ?_
  refine aw_seq ?_
  refine aw_region ?_
  refine rmv ?_
  refine ras ?_
  refine reg_nil ?_
  refine post_imp (s' := ⟨36, [(2, some (.ls 0))], [(0, some (.row 52 13 (List.map eGVar x64)))], 1, [], [], 0, []⟩) (imps [0] ⟨by kernel_rfl, trivial⟩ ⟨by kernel_rfl, trivial⟩) ?_
  refine post_next ?_
  refine aw_ret ?_
  obtain rfl := Option.some.inj hF
  exact post_ret rfl rfl (.cons _ _ _ _ _ (.tmp _ _ rfl) (.own _ _ _ _ rfl nolent3) .nil) (.inl rfl)
def arena_Vars (a0 : GMethod) : Option (List GVar) :=
  Option.bind (slices_Concat_api_Var [a0.fParams, a0.fLocals]) fun (y1 : (List GVar)) =>
  some y1
theorem arena_Vars_ok {a0 : GMethod} {r : (List GVar)} (hF : arena_Vars a0 = some r) : Abs.Fn globs_Tryd Tryd.prog 66 [.agg (eGMethod a0)] [.p (.vs 13 (List.map eGVar r))] := by
  unfold arena_Vars at hF
  refine fn_of_body (n := 9) Tryd.func66 rfl rfl rfl ?_
  intro w O
  refine aw_seq ?_
  refine aw_region ?_
  refine rgp (op_box 0 rfl rfl rfl rfl rfl rfl) ?_
  refine ras ?_
  refine reg_nil ?_
  refine post_imp (s' := ⟨9, [(1, some (.lp 0 0))], [(0, some (.box 42 (bxv (eGMethod a0))))], 1, [], [], 0, []⟩) (imps [0] ⟨by kernel_rfl, trivial⟩ ⟨by kernel_rfl, trivial⟩) ?_
  refine post_next ?_
  refine aw_seq ?_
  refine aw_region ?_
  refine rgp (op_field_lp rfl rfl Tryd_fld_42_3 rfl rfl) ?_
  refine rgp (op_load_lp (v := .pv (.vs 13 (List.map eGVar a0.fParams))) rfl rfl rfl rfl Tryd_one_36 rfl rfl) ?_
  refine rgp (op_field_lp rfl rfl Tryd_fld_42_4 rfl rfl) ?_
  refine rgp (op_load_lp (v := .pv (.vs 13 (List.map eGVar a0.fLocals))) rfl rfl rfl rfl Tryd_one_36 rfl rfl) ?_
  refine rgp (op_lit (rows := List.map (eL 13 eGVar) ([a0.fParams, a0.fLocals] : List (List GVar))) (zs := [.vs 13 (List.map eGVar [])]) rfl rfl Tryd_slc_126 Tryd_zer_36 (by exact ⟨trivial, trivial⟩) rfl rfl rfl rfl rfl rfl rfl rfl) ?_
  obtain ⟨y1, h2, hF⟩ := bind_some hF
  refine rgp (op_call 1 rfl (caps := []) (args := [.vs 1 (List.map (eL 13 eGVar) [a0.fParams, a0.fLocals])]) (rs := [.p (.vs 13 (List.map eGVar y1))]) rfl rfl rfl Tryd_cal_91 (Fn.frozen (slices_Concat_api_Var_ok h2)) rfl rfl rfl) ?_
  refine ras ?_
  refine reg_nil ?_
  refine post_imp (s' := ⟨9, [(2, some (.pv (.vs 13 (List.map eGVar y1))))], [], 0, [], [], 0, []⟩) (imps [] ⟨by kernel_rfl, trivial⟩ trivial) ?_
  refine post_next ?_
  refine aw_ret ?_
  obtain rfl := Option.some.inj hF
  exact prt
def scope_Type (a0 : GClass) (a1 : GMethod) (a2 : List UInt8) : Option (GType × Bool) :=
  if (a2 == [116, 104, 105, 115]) = true then
    Option.bind (scope_This a0) fun (y2 : GType) =>
    some (y2, true)
  else
    Option.bind (scope_Place a1 a2) fun (y6 : Int) =>
    if (decide (y6 < 0)) = true then
      some (({ fKind := 0, fClass := [], fN := 0, fOwn := (⟨zGOwner, zGOwner, zGOwner, zGOwner⟩ : A4 GOwner) } : GType), false)
    else
      Option.bind (arena_Vars a1) fun (y9 : (List GVar)) =>
      Option.bind (idx y9 y6) fun (y11 : GVar) =>
      some (y11.fType, true)
theorem scope_Type_ok {a0 : GClass} {a1 : GMethod} {a2 : List UInt8} {r : GType × Bool} (hF : scope_Type a0 a1 a2 = some r) : Abs.Fn globs_Tryd Tryd.prog 44 [.agg (eGClass a0), .agg (eGMethod a1), .str a2] [.p (.agg (eGType r.1)), .p (.bool r.2)] := by
  unfold scope_Type at hF
  refine fn_of_body (n := 25) Tryd.func44 rfl rfl rfl ?_
  intro w O
  refine aw_seq ?_
  refine aw_region ?_
  refine rgp (op_box 0 rfl rfl rfl rfl rfl rfl) ?_
  refine rgp (op_box 1 rfl rfl rfl rfl rfl rfl) ?_
  refine rgp (op_alloc 2 rfl (ps := (eGType zGType)) rfl Tryd_zer_26 (by exact ⟨rfl, rfl, rfl, rfl, rfl, rfl, rfl, rfl, rfl, rfl, rfl, trivial⟩) rfl rfl) ?_
  refine ras ?_
  refine reg_nil ?_
  refine post_imp (s' := ⟨25, [(2, some (.pv (.str a2))), (3, some (.lp 0 0)), (4, some (.lp 1 0)), (6, some (.lp 2 0))], [(0, some (.box 39 (bxv (eGClass a0)))), (1, some (.box 42 (bxv (eGMethod a1)))), (2, some (.box 26 (bxv (eGType zGType))))], 3, [], [], 0, []⟩) (imps [0, 1, 2] ⟨by kernel_rfl, by kernel_rfl, by kernel_rfl, by kernel_rfl, trivial⟩ ⟨by kernel_rfl, by kernel_rfl, by kernel_rfl, trivial⟩) ?_
  refine post_next ?_
  iterate 2 (refine aw_seq ?_)
  refine aw_region ?_
  refine rmv ?_
  refine rgp (op_str rfl rfl rfl rfl rfl rfl) ?_
  refine reg_nil ?_
  refine post_imp (s' := ⟨25, [(2, some (.pv (.str a2))), (3, some (.lp 0 0)), (4, some (.lp 1 0)), (6, some (.lp 2 0)), (10, some (.pv (.bool (a2 == [116, 104, 105, 115]))))], [(0, some (.box 39 (bxv (eGClass a0)))), (1, some (.box 42 (bxv (eGMethod a1)))), (2, some (.box 26 (bxv (eGType zGType))))], 3, [], [], 0, []⟩) (imps [0, 1, 2] ⟨by kernel_rfl, by kernel_rfl, by kernel_rfl, by kernel_rfl, by kernel_rfl, trivial⟩ ⟨by kernel_rfl, by kernel_rfl, by kernel_rfl, trivial⟩) ?_
  refine post_next ?_
  rcases ite_some hF with ⟨hb1, hF⟩ | ⟨hb1, hF⟩
  · refine aw_cond_t rfl hb1 ?_
    refine aw_seq ?_
    refine aw_region ?_
    refine rgp (op_load_lp_agg (ps := eGClass a0) rfl rfl rfl rfl rfl rfl Tryd_agg_39 rfl rfl) ?_
    obtain ⟨y2, h3, hF⟩ := bind_some hF
    refine rgp (op_call 3 rfl (caps := []) (args := [.agg (eGClass a0)]) (rs := [.p (.agg (eGType y2))]) rfl rfl rfl Tryd_cal_45 (scope_This_ok h3) rfl rfl rfl) ?_
    refine rgp (op_store_lp (n := 11) rfl rfl rfl rfl rfl (or_agg Tryd_agg_26) (by rw [Tryd_non_26]; rfl) rfl rfl rfl) ?_
    refine ras ?_
    refine reg_nil ?_
    refine post_imp (s' := ⟨25, [(6, some (.lp 0 0)), (7, some (.pv (.bool true)))], [(0, some (.box 26 (bxv (eGType y2))))], 1, [], [], 0, []⟩) (imps [2] ⟨by kernel_rfl, by kernel_rfl, trivial⟩ ⟨by kernel_rfl, trivial⟩) ?_
    refine post_next ?_
    refine aw_ret ?_
    refine post_then_ret ?_
    obtain rfl := Option.some.inj hF
    exact post_ret rfl rfl (.cons _ _ _ _ _ (.agg _ _ _ _ _ 11 _ _ rfl rfl Tryd_agg_26 rfl rfl rfl) (.p _) (.cons _ _ _ _ _ (.tmp _ _ rfl) (.p _) .nil)) (.inl rfl)
  refine aw_cond_f rfl hb1 ?_
  refine aw_skip ?_
  refine post_next ?_
  refine aw_seq ?_
  refine aw_region ?_
  refine rgp (op_load_lp_agg (ps := eGMethod a1) rfl rfl rfl rfl rfl rfl Tryd_agg_42 rfl rfl) ?_
  refine rmv ?_
  obtain ⟨y6, h7, hF⟩ := bind_some hF
  refine rgp (op_call 3 rfl (caps := []) (args := [.agg (eGMethod a1), .str a2]) (rs := [.p (.int .i64 y6)]) rfl rfl rfl Tryd_cal_65 (scope_Place_ok h7) rfl rfl rfl) ?_
  refine ras ?_
  refine reg_nil ?_
  refine post_imp (s' := ⟨25, [(4, some (.lp 0 0)), (6, some (.lp 1 0)), (8, some (.pv (.int .i64 y6)))], [(0, some (.box 42 (bxv (eGMethod a1)))), (1, some (.box 26 (bxv (eGType zGType))))], 2, [], [], 0, []⟩) (imps [1, 2] ⟨by kernel_rfl, by kernel_rfl, by kernel_rfl, trivial⟩ ⟨by kernel_rfl, by kernel_rfl, trivial⟩) ?_
  refine post_next ?_
  iterate 2 (refine aw_seq ?_)
  refine aw_region ?_
  refine rmv ?_
  refine rgp (op_int (k := .i64) (m := y6) (n := 0) rfl rfl rfl rfl rfl rfl) ?_
  refine reg_nil ?_
  refine post_imp (s' := ⟨25, [(4, some (.lp 0 0)), (6, some (.lp 1 0)), (8, some (.pv (.int .i64 y6))), (17, some (.pv (.bool (decide (y6 < 0)))))], [(0, some (.box 42 (bxv (eGMethod a1)))), (1, some (.box 26 (bxv (eGType zGType))))], 2, [], [], 0, []⟩) (imps [0, 1] ⟨by kernel_rfl, by kernel_rfl, by kernel_rfl, by kernel_rfl, trivial⟩ ⟨by kernel_rfl, by kernel_rfl, trivial⟩) ?_
  refine post_next ?_
  rcases ite_some hF with ⟨hb8, hF⟩ | ⟨hb8, hF⟩
  · refine aw_cond_t rfl hb8 ?_
    refine aw_seq ?_
    refine aw_region ?_
    refine rgp (op_build (zs := (eGType zGType)) (r := eGType ({ fKind := 0, fClass := [], fN := 0, fOwn := (⟨zGOwner, zGOwner, zGOwner, zGOwner⟩ : A4 GOwner) } : GType)) rfl Tryd_zer_26 (by exact ⟨rfl, rfl, rfl, rfl, rfl, rfl, rfl, rfl, rfl, rfl, rfl, trivial⟩) Tryd_plc_26 rfl rfl rfl rfl) ?_
    refine rgp (op_store_lp (n := 11) rfl rfl rfl rfl rfl (or_agg Tryd_agg_26) (by rw [Tryd_non_26]; rfl) rfl rfl rfl) ?_
    refine ras ?_
    refine reg_nil ?_
    refine post_imp (s' := ⟨25, [(6, some (.lp 0 0)), (7, some (.pv (.bool false)))], [(0, some (.box 26 (bxv (eGType ({ fKind := 0, fClass := [], fN := 0, fOwn := (⟨zGOwner, zGOwner, zGOwner, zGOwner⟩ : A4 GOwner) } : GType)))))], 1, [], [], 0, []⟩) (imps [1] ⟨by kernel_rfl, by kernel_rfl, trivial⟩ ⟨by kernel_rfl, trivial⟩) ?_
    refine post_next ?_
    refine aw_ret ?_
    refine post_then_ret ?_
    obtain rfl := Option.some.inj hF
    exact post_ret rfl rfl (.cons _ _ _ _ _ (.agg _ _ _ _ _ 11 _ _ rfl rfl Tryd_agg_26 rfl rfl rfl) (.p _) (.cons _ _ _ _ _ (.tmp _ _ rfl) (.p _) .nil)) (.inl rfl)
  refine aw_cond_f rfl hb8 ?_
  refine aw_skip ?_
  refine post_next ?_
  refine aw_seq ?_
  refine aw_region ?_
  refine rgp (op_load_lp_agg (ps := eGMethod a1) rfl rfl rfl rfl rfl rfl Tryd_agg_42 rfl rfl) ?_
  obtain ⟨y9, h10, hF⟩ := bind_some hF
  refine rgp (op_call 2 rfl (caps := []) (args := [.agg (eGMethod a1)]) (rs := [.p (.vs 13 (List.map eGVar y9))]) rfl rfl rfl Tryd_cal_66 (arena_Vars_ok h10) rfl rfl rfl) ?_
  refine rmv ?_
  obtain ⟨y11, h12, hF⟩ := bind_some hF
  refine rgp (op_index_vs (k := .i64) rfl rfl rfl (idx_map eGVar h12) Tryd_slc_36 rfl rfl) ?_
  refine rgp (op_field_vp rfl rfl Tryd_fld_52_1 rfl rfl) ?_
  refine rgp (op_load_vp_agg (ps := eGType y11.fType) rfl rfl rfl rfl Tryd_agg_26 rfl rfl) ?_
  refine rgp (op_store_lp (n := 11) rfl rfl rfl rfl rfl (or_agg Tryd_agg_26) (by rw [Tryd_non_26]; rfl) rfl rfl rfl) ?_
  refine ras ?_
  refine reg_nil ?_
  refine post_imp (s' := ⟨25, [(6, some (.lp 0 0)), (7, some (.pv (.bool true)))], [(0, some (.box 26 (bxv (eGType y11.fType))))], 1, [], [], 0, []⟩) (imps [1] ⟨by kernel_rfl, by kernel_rfl, trivial⟩ ⟨by kernel_rfl, trivial⟩) ?_
  refine post_next ?_
  refine aw_ret ?_
  obtain rfl := Option.some.inj hF
  exact post_ret rfl rfl (.cons _ _ _ _ _ (.agg _ _ _ _ _ 11 _ _ rfl rfl Tryd_agg_26 rfl rfl rfl) (.p _) (.cons _ _ _ _ _ (.tmp _ _ rfl) (.p _) .nil)) (.inl rfl)
def shape_want (a0 : Int) (a1 : GType) : Option Bool :=
  if (a0 == 13) = true then
    some (a1.fKind == 2)
  else
    if (a0 == 14) = true then
      if (a1.fKind == 2) = true then
        some true
      else
        some (a1.fKind == 3)
    else
      some (a1.fKind == 1)
theorem shape_want_ok {a0 : Int} {a1 : GType} {r : Bool} (hF : shape_want a0 a1 = some r) : Abs.Fn globs_Tryd Tryd.prog 46 [.int .i64 a0, .agg (eGType a1)] [.p (.bool r)] := by
  unfold shape_want at hF
  refine fn_of_body (n := 24) Tryd.func46 rfl rfl rfl ?_
  intro w O
  refine aw_seq ?_
  refine aw_region ?_
  refine rgp (op_box 0 rfl rfl rfl rfl rfl rfl) ?_
  refine ras ?_
  refine reg_nil ?_
  refine post_imp (s' := ⟨24, [(0, some (.pv (.int .i64 a0))), (3, some (.lp 0 0))], [(0, some (.box 26 (bxv (eGType a1))))], 1, [], [], 0, []⟩) (imps [0] ⟨by kernel_rfl, by kernel_rfl, trivial⟩ ⟨by kernel_rfl, trivial⟩) ?_
  refine post_next ?_
  iterate 2 (refine aw_seq ?_)
  refine aw_region ?_
  refine rmv ?_
  refine reg_nil ?_
  refine post_imp (s' := ⟨24, [(3, some (.lp 0 0)), (5, some (.pv (.int .i64 a0)))], [(0, some (.box 26 (bxv (eGType a1))))], 1, [], [], 0, []⟩) (imps [0] ⟨by kernel_rfl, by kernel_rfl, trivial⟩ ⟨by kernel_rfl, trivial⟩) ?_
  refine post_next ?_
  refine aw_block ?_
  refine aw_seq ?_
  refine aw_region ?_
  refine rgp (op_int (k := .i64) (m := a0) (n := 13) rfl rfl rfl rfl rfl rfl) ?_
  refine ras ?_
  refine reg_nil ?_
  refine post_imp (s' := ⟨24, [(3, some (.lp 0 0)), (5, some (.pv (.int .i64 a0))), (6, some (.pv (.bool (a0 == 13))))], [(0, some (.box 26 (bxv (eGType a1))))], 1, [], [], 0, []⟩) (imps [0] ⟨by kernel_rfl, by kernel_rfl, by kernel_rfl, trivial⟩ ⟨by kernel_rfl, trivial⟩) ?_
  refine post_next ?_
  rcases ite_some hF with ⟨hb1, hF⟩ | ⟨hb1, hF⟩
  · refine aw_cond_t rfl hb1 ?_
    refine aw_seq ?_
    refine aw_region ?_
    refine rgp (op_field_lp rfl rfl Tryd_fld_26_0 rfl rfl) ?_
    refine rgp (op_load_lp (v := .pv (.int .i64 a1.fKind)) rfl rfl rfl rfl Tryd_one_3 rfl rfl) ?_
    refine rgp (op_int (k := .i64) (m := a1.fKind) (n := 2) rfl rfl rfl rfl rfl rfl) ?_
    refine ras ?_
    refine reg_nil ?_
    refine post_imp (s' := ⟨24, [(4, some (.pv (.bool (a1.fKind == 2))))], [], 0, [], [], 0, []⟩) (imps [] ⟨by kernel_rfl, trivial⟩ trivial) ?_
    refine post_next ?_
    refine aw_ret ?_
    refine post_block_ret ?_
    refine post_then_ret ?_
    obtain rfl := Option.some.inj hF
    exact prt
  refine aw_cond_f rfl hb1 ?_
  refine aw_seq ?_
  refine aw_region ?_
  refine rgp (op_int (k := .i64) (m := a0) (n := 14) rfl rfl rfl rfl rfl rfl) ?_
  refine ras ?_
  refine reg_nil ?_
  refine post_imp (s' := ⟨24, [(3, some (.lp 0 0)), (11, some (.pv (.bool (a0 == 14))))], [(0, some (.box 26 (bxv (eGType a1))))], 1, [], [], 0, []⟩) (imps [0] ⟨by kernel_rfl, by kernel_rfl, trivial⟩ ⟨by kernel_rfl, trivial⟩) ?_
  refine post_next ?_
  rcases ite_some hF with ⟨hb2, hF⟩ | ⟨hb2, hF⟩
  · refine aw_cond_t rfl hb2 ?_
    refine aw_seq ?_
    refine aw_region ?_
    refine rgp (op_field_lp rfl rfl Tryd_fld_26_0 rfl rfl) ?_
    refine rgp (op_load_lp (v := .pv (.int .i64 a1.fKind)) rfl rfl rfl rfl Tryd_one_3 rfl rfl) ?_
    refine rgp (op_int (k := .i64) (m := a1.fKind) (n := 2) rfl rfl rfl rfl rfl rfl) ?_
    refine rmv ?_
    rcases ite_some hF with ⟨hb3, hF⟩ | ⟨hb3, hF⟩
    · refine rgo_t hb3 ?_
      iterate 2 (refine rgo_t hb3 ?_)
      refine rpt hb3 ?_
      refine ras ?_
      refine reg_nil ?_
      refine post_imp (s' := ⟨24, [(4, some (.pv (.bool true)))], [], 0, [], [], 0, []⟩) (imps [] ⟨by kernel_rfl, trivial⟩ trivial) ?_
      refine post_next ?_
      refine aw_ret ?_
      refine post_block_ret ?_
      refine post_then_ret ?_
      obtain rfl := Option.some.inj hF
      exact prt
    refine rgn hb3 (op_field_lp rfl rfl Tryd_fld_26_0 rfl rfl) ?_
    refine rgn hb3 (op_load_lp (v := .pv (.int .i64 a1.fKind)) rfl rfl rfl rfl Tryd_one_3 rfl rfl) ?_
    refine rgn hb3 (op_int (k := .i64) (m := a1.fKind) (n := 3) rfl rfl rfl rfl rfl rfl) ?_
    refine rpf hb3 ?_
    refine ras ?_
    refine reg_nil ?_
    refine post_imp (s' := ⟨24, [(4, some (.pv (.bool (a1.fKind == 3))))], [], 0, [], [], 0, []⟩) (imps [] ⟨by kernel_rfl, trivial⟩ trivial) ?_
    refine post_next ?_
    refine aw_ret ?_
    refine post_block_ret ?_
    refine post_then_ret ?_
    obtain rfl := Option.some.inj hF
    exact prt
  refine aw_cond_f rfl hb2 ?_
  refine aw_skip ?_
  refine post_block_normal ?_
  refine post_next ?_
  refine aw_seq ?_
  refine aw_region ?_
  refine rgp (op_field_lp rfl rfl Tryd_fld_26_0 rfl rfl) ?_
  refine rgp (op_load_lp (v := .pv (.int .i64 a1.fKind)) rfl rfl rfl rfl Tryd_one_3 rfl rfl) ?_
  refine rgp (op_int (k := .i64) (m := a1.fKind) (n := 1) rfl rfl rfl rfl rfl rfl) ?_
  refine ras ?_
  refine reg_nil ?_
  refine post_imp (s' := ⟨24, [(4, some (.pv (.bool (a1.fKind == 1))))], [], 0, [], [], 0, []⟩) (imps [] ⟨by kernel_rfl, trivial⟩ trivial) ?_
  refine post_next ?_
  refine aw_ret ?_
  obtain rfl := Option.some.inj hF
  exact prt
def kind_Unique (a0 : GType) : Option Bool :=
  if (a0.fKind == 2) = true then
    some (a0.fOwn.a0.fKind == 6)
  else
    some false
theorem kind_Unique_ok {a0 : GType} {r : Bool} (hF : kind_Unique a0 = some r) : Abs.Fn globs_Tryd Tryd.prog 24 [.agg (eGType a0)] [.p (.bool r)] := by
  unfold kind_Unique at hF
  refine fn_of_body (n := 13) Tryd.func24 rfl rfl rfl ?_
  intro w O
  refine aw_seq ?_
  refine aw_region ?_
  refine rgp (op_box 0 rfl rfl rfl rfl rfl rfl) ?_
  refine ras ?_
  refine reg_nil ?_
  refine post_imp (s' := ⟨13, [(1, some (.lp 0 0))], [(0, some (.box 26 (bxv (eGType a0))))], 1, [], [], 0, []⟩) (imps [0] ⟨by kernel_rfl, trivial⟩ ⟨by kernel_rfl, trivial⟩) ?_
  refine post_next ?_
  refine aw_seq ?_
  refine aw_region ?_
  refine rgp (op_field_lp rfl rfl Tryd_fld_26_0 rfl rfl) ?_
  refine rgp (op_load_lp (v := .pv (.int .i64 a0.fKind)) rfl rfl rfl rfl Tryd_one_3 rfl rfl) ?_
  refine rgp (op_int (k := .i64) (m := a0.fKind) (n := 2) rfl rfl rfl rfl rfl rfl) ?_
  refine rmv ?_
  rcases ite_some hF with ⟨hb1, hF⟩ | ⟨hb1, hF⟩
  · refine rgn hb1 (op_field_lp rfl rfl Tryd_fld_26_3 rfl rfl) ?_
    refine rgn hb1 (op_arr_lp (k := .i64) (m := 0) (n := 4) rfl rfl rfl Tryd_arr_24 rfl rfl rfl rfl) ?_
    refine rgn hb1 (op_field_lp rfl rfl Tryd_fld_23_0 rfl rfl) ?_
    refine rgn hb1 (op_load_lp (v := .pv (.int .i64 a0.fOwn.a0.fKind)) rfl rfl rfl rfl Tryd_one_3 rfl rfl) ?_
    refine rgn hb1 (op_int (k := .i64) (m := a0.fOwn.a0.fKind) (n := 6) rfl rfl rfl rfl rfl rfl) ?_
    refine rpt hb1 ?_
    refine ras ?_
    refine reg_nil ?_
    refine post_imp (s' := ⟨13, [(2, some (.pv (.bool (a0.fOwn.a0.fKind == 6))))], [], 0, [], [], 0, []⟩) (imps [] ⟨by kernel_rfl, trivial⟩ trivial) ?_
    refine post_next ?_
    refine aw_ret ?_
    obtain rfl := Option.some.inj hF
    exact prt
  iterate 5 (refine rgo_f hb1 ?_)
  refine rpf hb1 ?_
  refine ras ?_
  refine reg_nil ?_
  refine post_imp (s' := ⟨13, [(2, some (.pv (.bool false)))], [], 0, [], [], 0, []⟩) (imps [] ⟨by kernel_rfl, trivial⟩ trivial) ?_
  refine post_next ?_
  refine aw_ret ?_
  obtain rfl := Option.some.inj hF
  exact prt
def shape_Of_1_L1 (a0 : GExpr) (c2 : Clo0) : Nat → Int → Int → Option (Ctl (GType × Int) (Int))
  | 0, _, _ => none
  | n + 1, x37, x38 =>
    if (decide (x38 < (a0.fKids.length : Int))) = true then
      Ctl.go (obind (idx a0.fKids x38) fun (y70 : GExpr) =>
      obind (c2.q y70) fun (y74 : GType × Int) =>
      obind (Option.bind (if (y74.2 == 0) = true then
        Option.bind (shape_want a0.fKind y74.1) fun (y77 : Bool) =>
        some (!y77)
      else
        some false : Option (Bool)) fun x79 =>
      if x79 = true then
        some 14
      else
        some y74.2 : Option (Int)) fun x83 =>
      if (x83 != 0) = true then
        .stop (some (.stop (({ fKind := 0, fClass := [], fN := 0, fOwn := (⟨zGOwner, zGOwner, zGOwner, zGOwner⟩ : A4 GOwner) } : GType), x83)))
      else
        obind (kind_Unique y74.1) fun (y89 : Bool) =>
        if y89 = true then
          .next (w_i64 (x37 + 1))
        else
          .next x37 : Ctl (Option (Ctl (GType × Int) (Int))) (Int)) fun x92 =>
      shape_Of_1_L1 a0 c2 n x92 (w_i64 (x38 + 1))
    else
      some (.next x37)
def shape_Of_1 (a0 : GExpr) (c0 : GClass) (c1 : GMethod) (c2 : Clo0) : Option (GType × Int) :=
  if (a0.fKind == 2) = true then
    Option.bind (scope_Type c0 c1 a0.fName) fun (y4 : GType × Bool) =>
    if (!y4.2) = true then
      some (({ fKind := 0, fClass := [], fN := 0, fOwn := (⟨zGOwner, zGOwner, zGOwner, zGOwner⟩ : A4 GOwner) } : GType), 13)
    else
      some (y4.1, 0)
  else
    if (a0.fKind == 3) = true then
      Option.bind (scope_This c0) fun (y8 : GType) =>
      some (y8, 0)
    else
      if (a0.fKind == 4) = true then
        some (({ fKind := 3, fClass := [], fN := 0, fOwn := (⟨zGOwner, zGOwner, zGOwner, zGOwner⟩ : A4 GOwner) } : GType), 0)
      else
        Option.bind (shape_Of_1_L1 a0 c2 ((((a0.fKids.length : Int) : Int) - (0)).toNat + 1) 0 0) fun lr96 =>
        Ctl.elim lr96 (fun v => some v) fun x95 =>
        Option.bind (if (decide (x95 > 0)) = true then
          some (a0.fKind == 14)
        else
          some false : Option (Bool)) fun x99 =>
        if x99 = true then
          some (({ fKind := 0, fClass := [], fN := 0, fOwn := (⟨zGOwner, zGOwner, zGOwner, zGOwner⟩ : A4 GOwner) } : GType), 22)
        else
          some (({ fKind := 1, fClass := [], fN := 0, fOwn := (⟨zGOwner, zGOwner, zGOwner, zGOwner⟩ : A4 GOwner) } : GType), 0)
theorem shape_Of_1_ok {a0 : GExpr} {c0 : GClass} {c1 : GMethod} {c2 : Clo0} {r : GType × Int} (hF : shape_Of_1 a0 c0 c1 c2 = some r) : Abs.Fn globs_Tryd Tryd.prog 43 [.agg (eGExpr a0), .vp (eGClass c0), .vp (eGMethod c1), .vp (eFn c2)] [.p (.agg (eGType r.1)), .p (.int .i64 r.2)] := by
  unfold shape_Of_1 at hF
  refine fn_of_body (n := 77) Tryd.func43 rfl rfl rfl ?_
  intro w O
  refine aw_seq ?_
  refine aw_region ?_
  refine rgp (op_box 0 rfl rfl rfl rfl rfl rfl) ?_
  refine rgp (op_alloc 1 rfl (ps := (eGType zGType)) rfl Tryd_zer_26 (by exact ⟨rfl, rfl, rfl, rfl, rfl, rfl, rfl, rfl, rfl, rfl, rfl, trivial⟩) rfl rfl) ?_
  refine ras ?_
  refine reg_nil ?_
  refine post_imp (s' := ⟨77, [(1, some (.pv (.vp (eGClass c0)))), (2, some (.pv (.vp (eGMethod c1)))), (3, some (.pv (.vp (eFn c2)))), (4, some (.lp 0 0)), (5, some (.lp 1 0))], [(0, some (.box 45 (bxv (eGExpr a0)))), (1, some (.box 26 (bxv (eGType zGType))))], 2, [], [], 0, []⟩) (imps [0, 1] ⟨by kernel_rfl, by kernel_rfl, by kernel_rfl, by kernel_rfl, by kernel_rfl, trivial⟩ ⟨by kernel_rfl, by kernel_rfl, trivial⟩) ?_
  refine post_next ?_
  iterate 2 (refine aw_seq ?_)
  refine aw_region ?_
  refine rgp (op_field_lp rfl rfl Tryd_fld_45_0 rfl rfl) ?_
  refine rgp (op_load_lp (v := .pv (.int .i64 a0.fKind)) rfl rfl rfl rfl Tryd_one_3 rfl rfl) ?_
  refine reg_nil ?_
  refine post_imp (s' := ⟨77, [(1, some (.pv (.vp (eGClass c0)))), (2, some (.pv (.vp (eGMethod c1)))), (3, some (.pv (.vp (eFn c2)))), (4, some (.lp 0 0)), (5, some (.lp 1 0)), (15, some (.pv (.int .i64 a0.fKind)))], [(0, some (.box 45 (bxv (eGExpr a0)))), (1, some (.box 26 (bxv (eGType zGType))))], 2, [], [], 0, []⟩) (imps [0, 1] ⟨by kernel_rfl, by kernel_rfl, by kernel_rfl, by kernel_rfl, by kernel_rfl, by kernel_rfl, trivial⟩ ⟨by kernel_rfl, by kernel_rfl, trivial⟩) ?_
  refine post_next ?_
  refine aw_block ?_
  refine aw_seq ?_
  refine aw_region ?_
  refine rgp (op_int (k := .i64) (m := a0.fKind) (n := 2) rfl rfl rfl rfl rfl rfl) ?_
  refine ras ?_
  refine reg_nil ?_
  refine post_imp (s' := ⟨77, [(1, some (.pv (.vp (eGClass c0)))), (2, some (.pv (.vp (eGMethod c1)))), (3, some (.pv (.vp (eFn c2)))), (4, some (.lp 0 0)), (5, some (.lp 1 0)), (15, some (.pv (.int .i64 a0.fKind))), (16, some (.pv (.bool (a0.fKind == 2))))], [(0, some (.box 45 (bxv (eGExpr a0)))), (1, some (.box 26 (bxv (eGType zGType))))], 2, [], [], 0, []⟩) (imps [0, 1] ⟨by kernel_rfl, by kernel_rfl, by kernel_rfl, by kernel_rfl, by kernel_rfl, by kernel_rfl, by kernel_rfl, trivial⟩ ⟨by kernel_rfl, by kernel_rfl, trivial⟩) ?_
  refine post_next ?_
  rcases ite_some hF with ⟨hb1, hF⟩ | ⟨hb1, hF⟩
  · refine aw_cond_t rfl hb1 ?_
    refine aw_seq ?_
    refine aw_region ?_
    refine rgp (op_load_vp_agg (ps := eGClass c0) rfl rfl rfl rfl Tryd_agg_39 rfl rfl) ?_
    refine rgp (op_load_vp_agg (ps := eGMethod c1) rfl rfl rfl rfl Tryd_agg_42 rfl rfl) ?_
    refine rgp (op_field_lp rfl rfl Tryd_fld_45_2 rfl rfl) ?_
    refine rgp (op_load_lp (v := .pv (.str a0.fName)) rfl rfl rfl rfl Tryd_one_9 rfl rfl) ?_
    obtain ⟨y4, h5, hF⟩ := bind_some hF
    refine rgp (op_call 2 rfl (caps := []) (args := [.agg (eGClass c0), .agg (eGMethod c1), .str a0.fName]) (rs := [.p (.agg (eGType y4.1)), .p (.bool y4.2)]) rfl rfl rfl Tryd_cal_44 (scope_Type_ok h5) rfl rfl rfl) ?_
    refine rmv ?_
    iterate 2 (refine rgp (op_extract rfl rfl rfl rfl rfl) ?_)
    refine rgp (op_alloc 2 rfl (ps := (eGType zGType)) rfl Tryd_zer_26 (by exact ⟨rfl, rfl, rfl, rfl, rfl, rfl, rfl, rfl, rfl, rfl, rfl, trivial⟩) rfl rfl) ?_
    refine rgp (op_store_lp (n := 11) rfl rfl rfl rfl rfl (or_agg Tryd_agg_26) (by rw [Tryd_non_26]; rfl) rfl rfl rfl) ?_
    refine ras ?_
    refine reg_nil ?_
    refine post_imp (s' := ⟨77, [(5, some (.lp 0 0)), (7, some (.lp 1 0)), (8, some (.pv (.bool y4.2)))], [(0, some (.box 26 (bxv (eGType zGType)))), (1, some (.box 26 (bxv (eGType y4.1))))], 2, [], [], 0, []⟩) (imps [1, 2] ⟨by kernel_rfl, by kernel_rfl, by kernel_rfl, trivial⟩ ⟨by kernel_rfl, by kernel_rfl, trivial⟩) ?_
    refine post_next ?_
    iterate 2 (refine aw_seq ?_)
    refine aw_region ?_
    refine rmv ?_
    refine rgp (op_not rfl rfl rfl rfl) ?_
    refine reg_nil ?_
    refine post_imp (s' := ⟨77, [(5, some (.lp 0 0)), (7, some (.lp 1 0)), (27, some (.pv (.bool (!y4.2))))], [(0, some (.box 26 (bxv (eGType zGType)))), (1, some (.box 26 (bxv (eGType y4.1))))], 2, [], [], 0, []⟩) (imps [0, 1] ⟨by kernel_rfl, by kernel_rfl, by kernel_rfl, trivial⟩ ⟨by kernel_rfl, by kernel_rfl, trivial⟩) ?_
    refine post_next ?_
    rcases ite_some hF with ⟨hb6, hF⟩ | ⟨hb6, hF⟩
    · refine aw_cond_t rfl hb6 ?_
      refine aw_seq ?_
      refine aw_region ?_
      refine rgp (op_build (zs := (eGType zGType)) (r := eGType ({ fKind := 0, fClass := [], fN := 0, fOwn := (⟨zGOwner, zGOwner, zGOwner, zGOwner⟩ : A4 GOwner) } : GType)) rfl Tryd_zer_26 (by exact ⟨rfl, rfl, rfl, rfl, rfl, rfl, rfl, rfl, rfl, rfl, rfl, trivial⟩) Tryd_plc_26 rfl rfl rfl rfl) ?_
      refine rgp (op_store_lp (n := 11) rfl rfl rfl rfl rfl (or_agg Tryd_agg_26) (by rw [Tryd_non_26]; rfl) rfl rfl rfl) ?_
      refine ras ?_
      refine reg_nil ?_
      refine post_imp (s' := ⟨77, [(5, some (.lp 0 0)), (6, some (.pv (.int .i64 13)))], [(0, some (.box 26 (bxv (eGType ({ fKind := 0, fClass := [], fN := 0, fOwn := (⟨zGOwner, zGOwner, zGOwner, zGOwner⟩ : A4 GOwner) } : GType)))))], 1, [], [], 0, []⟩) (imps [0] ⟨by kernel_rfl, by kernel_rfl, trivial⟩ ⟨by kernel_rfl, trivial⟩) ?_
      refine post_next ?_
      refine aw_ret ?_
      refine post_then_ret ?_
      refine post_block_ret ?_
      refine post_then_ret ?_
      obtain rfl := Option.some.inj hF
      exact post_ret rfl rfl (.cons _ _ _ _ _ (.agg _ _ _ _ _ 11 _ _ rfl rfl Tryd_agg_26 rfl rfl rfl) (.p _) (.cons _ _ _ _ _ (.tmp _ _ rfl) (.p _) .nil)) (.inl rfl)
    refine aw_cond_f rfl hb6 ?_
    refine aw_skip ?_
    refine post_next ?_
    refine aw_seq ?_
    refine aw_region ?_
    refine rgp (op_load_lp_agg (ps := eGType y4.1) rfl rfl rfl rfl rfl rfl Tryd_agg_26 rfl rfl) ?_
    refine rgp (op_store_lp (n := 11) rfl rfl rfl rfl rfl (or_agg Tryd_agg_26) (by rw [Tryd_non_26]; rfl) rfl rfl rfl) ?_
    refine ras ?_
    refine reg_nil ?_
    refine post_imp (s' := ⟨77, [(5, some (.lp 0 0)), (6, some (.pv (.int .i64 0)))], [(0, some (.box 26 (bxv (eGType y4.1))))], 1, [], [], 0, []⟩) (imps [0] ⟨by kernel_rfl, by kernel_rfl, trivial⟩ ⟨by kernel_rfl, trivial⟩) ?_
    refine post_next ?_
    refine aw_ret ?_
    refine post_block_ret ?_
    refine post_then_ret ?_
    obtain rfl := Option.some.inj hF
    exact post_ret rfl rfl (.cons _ _ _ _ _ (.agg _ _ _ _ _ 11 _ _ rfl rfl Tryd_agg_26 rfl rfl rfl) (.p _) (.cons _ _ _ _ _ (.tmp _ _ rfl) (.p _) .nil)) (.inl rfl)
  refine aw_cond_f rfl hb1 ?_
  refine aw_seq ?_
  refine aw_region ?_
  refine rgp (op_int (k := .i64) (m := a0.fKind) (n := 3) rfl rfl rfl rfl rfl rfl) ?_
  refine ras ?_
  refine reg_nil ?_
  refine post_imp (s' := ⟨77, [(1, some (.pv (.vp (eGClass c0)))), (3, some (.pv (.vp (eFn c2)))), (4, some (.lp 0 0)), (5, some (.lp 1 0)), (15, some (.pv (.int .i64 a0.fKind))), (30, some (.pv (.bool (a0.fKind == 3))))], [(0, some (.box 45 (bxv (eGExpr a0)))), (1, some (.box 26 (bxv (eGType zGType))))], 2, [], [], 0, []⟩) (imps [0, 1] ⟨by kernel_rfl, by kernel_rfl, by kernel_rfl, by kernel_rfl, by kernel_rfl, by kernel_rfl, trivial⟩ ⟨by kernel_rfl, by kernel_rfl, trivial⟩) ?_
  refine post_next ?_
  rcases ite_some hF with ⟨hb7, hF⟩ | ⟨hb7, hF⟩
  · refine aw_cond_t rfl hb7 ?_
    refine aw_seq ?_
    refine aw_region ?_
    refine rgp (op_load_vp_agg (ps := eGClass c0) rfl rfl rfl rfl Tryd_agg_39 rfl rfl) ?_
    obtain ⟨y8, h9, hF⟩ := bind_some hF
    refine rgp (op_call 2 rfl (caps := []) (args := [.agg (eGClass c0)]) (rs := [.p (.agg (eGType y8))]) rfl rfl rfl Tryd_cal_45 (scope_This_ok h9) rfl rfl rfl) ?_
    refine rgp (op_store_lp (n := 11) rfl rfl rfl rfl rfl (or_agg Tryd_agg_26) (by rw [Tryd_non_26]; rfl) rfl rfl rfl) ?_
    refine ras ?_
    refine reg_nil ?_
    refine post_imp (s' := ⟨77, [(5, some (.lp 0 0)), (6, some (.pv (.int .i64 0)))], [(0, some (.box 26 (bxv (eGType y8))))], 1, [], [], 0, []⟩) (imps [1] ⟨by kernel_rfl, by kernel_rfl, trivial⟩ ⟨by kernel_rfl, trivial⟩) ?_
    refine post_next ?_
    refine aw_ret ?_
    refine post_block_ret ?_
    refine post_then_ret ?_
    obtain rfl := Option.some.inj hF
    exact post_ret rfl rfl (.cons _ _ _ _ _ (.agg _ _ _ _ _ 11 _ _ rfl rfl Tryd_agg_26 rfl rfl rfl) (.p _) (.cons _ _ _ _ _ (.tmp _ _ rfl) (.p _) .nil)) (.inl rfl)
  refine aw_cond_f rfl hb7 ?_
  refine aw_seq ?_
  refine aw_region ?_
  refine rgp (op_int (k := .i64) (m := a0.fKind) (n := 4) rfl rfl rfl rfl rfl rfl) ?_
  refine ras ?_
  refine reg_nil ?_
  refine post_imp (s' := ⟨77, [(3, some (.pv (.vp (eFn c2)))), (4, some (.lp 0 0)), (5, some (.lp 1 0)), (34, some (.pv (.bool (a0.fKind == 4))))], [(0, some (.box 45 (bxv (eGExpr a0)))), (1, some (.box 26 (bxv (eGType zGType))))], 2, [], [], 0, []⟩) (imps [0, 1] ⟨by kernel_rfl, by kernel_rfl, by kernel_rfl, by kernel_rfl, trivial⟩ ⟨by kernel_rfl, by kernel_rfl, trivial⟩) ?_
  refine post_next ?_
  rcases ite_some hF with ⟨hb10, hF⟩ | ⟨hb10, hF⟩
  · refine aw_cond_t rfl hb10 ?_
    refine aw_seq ?_
    refine aw_region ?_
    refine rgp (op_build (zs := (eGType zGType)) (r := eGType ({ fKind := 3, fClass := [], fN := 0, fOwn := (⟨zGOwner, zGOwner, zGOwner, zGOwner⟩ : A4 GOwner) } : GType)) rfl Tryd_zer_26 (by exact ⟨rfl, rfl, rfl, rfl, rfl, rfl, rfl, rfl, rfl, rfl, rfl, trivial⟩) Tryd_plc_26 rfl rfl rfl rfl) ?_
    refine rgp (op_store_lp (n := 11) rfl rfl rfl rfl rfl (or_agg Tryd_agg_26) (by rw [Tryd_non_26]; rfl) rfl rfl rfl) ?_
    refine ras ?_
    refine reg_nil ?_
    refine post_imp (s' := ⟨77, [(5, some (.lp 0 0)), (6, some (.pv (.int .i64 0)))], [(0, some (.box 26 (bxv (eGType ({ fKind := 3, fClass := [], fN := 0, fOwn := (⟨zGOwner, zGOwner, zGOwner, zGOwner⟩ : A4 GOwner) } : GType)))))], 1, [], [], 0, []⟩) (imps [1] ⟨by kernel_rfl, by kernel_rfl, trivial⟩ ⟨by kernel_rfl, trivial⟩) ?_
    refine post_next ?_
    refine aw_ret ?_
    refine post_block_ret ?_
    refine post_then_ret ?_
    obtain rfl := Option.some.inj hF
    exact post_ret rfl rfl (.cons _ _ _ _ _ (.agg _ _ _ _ _ 11 _ _ rfl rfl Tryd_agg_26 rfl rfl rfl) (.p _) (.cons _ _ _ _ _ (.tmp _ _ rfl) (.p _) .nil)) (.inl rfl)
  refine aw_cond_f rfl hb10 ?_
  refine aw_skip ?_
  refine post_block_normal ?_
  refine post_next ?_
  refine aw_seq ?_
  refine aw_region ?_
  refine ras ?_
  refine reg_nil ?_
  refine post_imp (s' := ⟨77, [(3, some (.pv (.vp (eFn c2)))), (4, some (.lp 0 0)), (5, some (.lp 1 0)), (9, some (.pv (.int .i64 0)))], [(0, some (.box 45 (bxv (eGExpr a0)))), (1, some (.box 26 (bxv (eGType zGType))))], 2, [], [], 0, []⟩) (imps [0, 1] ⟨by kernel_rfl, by kernel_rfl, by kernel_rfl, by kernel_rfl, trivial⟩ ⟨by kernel_rfl, by kernel_rfl, trivial⟩) ?_
  refine post_next ?_
  iterate 2 (refine aw_seq ?_)
  refine aw_region ?_
  refine rgp (op_field_lp rfl rfl Tryd_fld_45_3 rfl rfl) ?_
  refine rgp (op_load_lp (v := .pv (.vs 4 (eLGExpr a0.fKids))) rfl rfl rfl rfl Tryd_one_43 rfl rfl) ?_
  refine rgp (op_len_vs (n := a0.fKids.length) rfl rfl (lenR eLGExpr_map) Tryd_slc_43 rfl rfl) ?_
  refine rmv ?_
  refine reg_nil ?_
  refine post_imp (s' := ⟨77, [(3, some (.pv (.vp (eFn c2)))), (4, some (.lp 0 0)), (5, some (.lp 1 0)), (9, some (.pv (.int .i64 0))), (38, some (.pv (.vs 4 (eLGExpr a0.fKids)))), (39, some (.pv (.int .i64 (a0.fKids.length : Int)))), (40, some (.pv (.int .i64 0)))], [(0, some (.box 45 (bxv (eGExpr a0)))), (1, some (.box 26 (bxv (eGType zGType))))], 2, [], [], 0, []⟩) (imps [0, 1] ⟨by kernel_rfl, by kernel_rfl, by kernel_rfl, by kernel_rfl, by kernel_rfl, by kernel_rfl, by kernel_rfl, trivial⟩ ⟨by kernel_rfl, by kernel_rfl, trivial⟩) ?_
  refine post_next ?_
  obtain ⟨lr96, hF, hK97⟩ := bind_some hF
  refine aw_for ((((a0.fKids.length : Int) : Int) - (0)).toNat + 1) (fun s1 => ∃ q, lr96 = .next q ∧ s1 = ⟨77, [(4, some (.lp 0 0)), (5, some (.lp 1 0)), (9, some (.pv (.int .i64 q)))], [(0, some (.box 45 (bxv (eGExpr a0)))), (1, some (.box 26 (bxv (eGType zGType))))], 2, [], [], 0, []⟩) ?_ ?_
  · refine rnd_loop (α := Int × Int) (fun q => ⟨77, [(3, some (.pv (.vp (eFn c2)))), (4, some (.lp 0 0)), (5, some (.lp 1 0)), (9, some (.pv (.int .i64 q.1))), (38, some (.pv (.vs 4 (eLGExpr a0.fKids)))), (39, some (.pv (.int .i64 (a0.fKids.length : Int)))), (40, some (.pv (.int .i64 q.2)))], [(0, some (.box 45 (bxv (eGExpr a0)))), (1, some (.box 26 (bxv (eGType zGType))))], 2, [], [], 0, []⟩) (fun k q => shape_Of_1_L1 a0 c2 k q.1 q.2 = some lr96) (0, 0) (imps [0, 1] ⟨by kernel_rfl, by kernel_rfl, by kernel_rfl, by kernel_rfl, by kernel_rfl, by kernel_rfl, by kernel_rfl, trivial⟩ ⟨by kernel_rfl, by kernel_rfl, trivial⟩) hF (fun q h => by cases h) ?_
    clear hF
    rintro k ⟨x37, x38⟩ hF ih
    refine rnd_succ ?_
    refine aw_seq ?_
    refine aw_region ?_
    refine rgp (op_int (k := .i64) (m := x38) (n := (a0.fKids.length : Int)) rfl rfl rfl rfl rfl rfl) ?_
    refine reg_nil ?_
    refine post_imp (s' := ⟨77, [(3, some (.pv (.vp (eFn c2)))), (4, some (.lp 0 0)), (5, some (.lp 1 0)), (9, some (.pv (.int .i64 x37))), (38, some (.pv (.vs 4 (eLGExpr a0.fKids)))), (39, some (.pv (.int .i64 (a0.fKids.length : Int)))), (40, some (.pv (.int .i64 x38))), (41, some (.pv (.bool (decide (x38 < (a0.fKids.length : Int))))))], [(0, some (.box 45 (bxv (eGExpr a0)))), (1, some (.box 26 (bxv (eGType zGType))))], 2, [], [], 0, []⟩) (imps [0, 1] ⟨by kernel_rfl, by kernel_rfl, by kernel_rfl, by kernel_rfl, by kernel_rfl, by kernel_rfl, by kernel_rfl, by kernel_rfl, trivial⟩ ⟨by kernel_rfl, by kernel_rfl, trivial⟩) ?_
    refine post_next ?_
    refine aw_seq ?_
    rcases ite_some hF with ⟨hb67, hF⟩ | ⟨hb67, hF⟩
    · refine aw_cond_t rfl hb67 ?_
      refine aw_skip ?_
      refine post_next ?_
      refine aw_seq ?_
      refine aw_join hF (fun q => ⟨77, [(3, some (.pv (.vp (eFn c2)))), (4, some (.lp 0 0)), (5, some (.lp 1 0)), (9, some (.pv (.int .i64 q))), (38, some (.pv (.vs 4 (eLGExpr a0.fKids)))), (39, some (.pv (.int .i64 (a0.fKids.length : Int)))), (40, some (.pv (.int .i64 x38)))], [(0, some (.box 45 (bxv (eGExpr a0)))), (1, some (.box 26 (bxv (eGType zGType))))], 2, [], [], 0, []⟩) ?_ ?_
      · refine aw_block ?_
        refine aw_seq ?_
        refine aw_region ?_
        obtain ⟨y70, h71, hF⟩ := go_bind hF
        refine rgp (op_index_vs (k := .i64) rfl rfl rfl (idxR eLGExpr_map h71) Tryd_slc_43 rfl rfl) ?_
        refine rgp (op_load_vp_agg (ps := eGExpr y70) rfl rfl rfl rfl Tryd_agg_45 rfl rfl) ?_
        refine rgp (op_alloc 2 rfl (ps := (eGExpr zGExpr)) rfl Tryd_zer_45 (by exact ⟨rfl, rfl, rfl, trivial, trivial⟩) rfl rfl) ?_
        refine rgp (op_store_lp (n := 4) rfl rfl rfl rfl rfl (or_agg Tryd_agg_45) (by rw [Tryd_non_45]; rfl) rfl rfl rfl) ?_
        refine reg_nil ?_
        refine post_imp (s' := ⟨77, [(3, some (.pv (.vp (eFn c2)))), (4, some (.lp 0 0)), (5, some (.lp 1 0)), (9, some (.pv (.int .i64 x37))), (11, some (.lp 2 0)), (38, some (.pv (.vs 4 (eLGExpr a0.fKids)))), (39, some (.pv (.int .i64 (a0.fKids.length : Int)))), (40, some (.pv (.int .i64 x38)))], [(0, some (.box 45 (bxv (eGExpr a0)))), (1, some (.box 26 (bxv (eGType zGType)))), (2, some (.box 45 (bxv (eGExpr y70))))], 3, [], [], 0, []⟩) (imps [0, 1, 2] ⟨by kernel_rfl, by kernel_rfl, by kernel_rfl, by kernel_rfl, by kernel_rfl, by kernel_rfl, by kernel_rfl, by kernel_rfl, trivial⟩ ⟨by kernel_rfl, by kernel_rfl, by kernel_rfl, trivial⟩) ?_
        refine post_next ?_
        refine aw_seq ?_
        refine aw_region ?_
        refine rgp (op_load_vp (p := .fn c2.f c2.c) rfl rfl rfl Tryd_one_71 rfl rfl) ?_
        refine rgp (op_load_lp_agg (ps := eGExpr y70) rfl rfl rfl rfl rfl rfl Tryd_agg_45 rfl rfl) ?_
        obtain ⟨y74, h75, hF⟩ := go_bind hF
        refine rgp (op_call 3 rfl (caps := c2.c) (args := [.agg (eGExpr y70)]) (rs := [.p (.agg (eGType y74.1)), .p (.int .i64 y74.2)]) rfl rfl rfl c2.b (c2.h y70 _ h75) rfl rfl rfl) ?_
        refine rmv ?_
        iterate 2 (refine rgp (op_extract rfl rfl rfl rfl rfl) ?_)
        refine rgp (op_alloc 3 rfl (ps := (eGType zGType)) rfl Tryd_zer_26 (by exact ⟨rfl, rfl, rfl, rfl, rfl, rfl, rfl, rfl, rfl, rfl, rfl, trivial⟩) rfl rfl) ?_
        refine rgp (op_store_lp (n := 11) rfl rfl rfl rfl rfl (or_agg Tryd_agg_26) (by rw [Tryd_non_26]; rfl) rfl rfl rfl) ?_
        refine ras ?_
        refine reg_nil ?_
        refine post_imp (s' := ⟨77, [(3, some (.pv (.vp (eFn c2)))), (4, some (.lp 0 0)), (5, some (.lp 1 0)), (9, some (.pv (.int .i64 x37))), (12, some (.lp 2 0)), (13, some (.pv (.int .i64 y74.2))), (38, some (.pv (.vs 4 (eLGExpr a0.fKids)))), (39, some (.pv (.int .i64 (a0.fKids.length : Int)))), (40, some (.pv (.int .i64 x38)))], [(0, some (.box 45 (bxv (eGExpr a0)))), (1, some (.box 26 (bxv (eGType zGType)))), (2, some (.box 26 (bxv (eGType y74.1))))], 3, [], [], 0, []⟩) (imps [0, 1, 3] ⟨by kernel_rfl, by kernel_rfl, by kernel_rfl, by kernel_rfl, by kernel_rfl, by kernel_rfl, by kernel_rfl, by kernel_rfl, by kernel_rfl, trivial⟩ ⟨by kernel_rfl, by kernel_rfl, by kernel_rfl, trivial⟩) ?_
        refine post_next ?_
        refine aw_seq ?_
        obtain ⟨x83, hF, hK85⟩ := go_bind hF
        refine aw_cut (fun s1 => s1 = ⟨77, [(3, some (.pv (.vp (eFn c2)))), (4, some (.lp 0 0)), (5, some (.lp 1 0)), (9, some (.pv (.int .i64 x37))), (12, some (.lp 2 0)), (13, some (.pv (.int .i64 x83))), (38, some (.pv (.vs 4 (eLGExpr a0.fKids)))), (39, some (.pv (.int .i64 (a0.fKids.length : Int)))), (40, some (.pv (.int .i64 x38)))], [(0, some (.box 45 (bxv (eGExpr a0)))), (1, some (.box 26 (bxv (eGType zGType)))), (2, some (.box 26 (bxv (eGType y74.1))))], 3, [], [], 0, []⟩) ?_ ?_
        · refine aw_seq ?_
          obtain ⟨x79, hF, hK81⟩ := bind_some hF
          refine aw_cut (fun s1 => s1 = ⟨77, [(3, some (.pv (.vp (eFn c2)))), (4, some (.lp 0 0)), (5, some (.lp 1 0)), (9, some (.pv (.int .i64 x37))), (12, some (.lp 2 0)), (13, some (.pv (.int .i64 y74.2))), (38, some (.pv (.vs 4 (eLGExpr a0.fKids)))), (39, some (.pv (.int .i64 (a0.fKids.length : Int)))), (40, some (.pv (.int .i64 x38))), (58, some (.pv (.bool x79)))], [(0, some (.box 45 (bxv (eGExpr a0)))), (1, some (.box 26 (bxv (eGType zGType)))), (2, some (.box 26 (bxv (eGType y74.1))))], 3, [], [], 0, []⟩) ?_ ?_
          · refine aw_region ?_
            refine rmv ?_
            refine rgp (op_int (k := .i64) (m := y74.2) (n := 0) rfl rfl rfl rfl rfl rfl) ?_
            refine rmv ?_
            rcases ite_some hF with ⟨hb76, hF⟩ | ⟨hb76, hF⟩
            · refine rgn hb76 (op_field_lp rfl rfl Tryd_fld_45_0 rfl rfl) ?_
              refine rgn hb76 (op_load_lp (v := .pv (.int .i64 a0.fKind)) rfl rfl rfl rfl Tryd_one_3 rfl rfl) ?_
              refine rgn hb76 (op_load_lp_agg (ps := eGType y74.1) rfl rfl rfl rfl rfl rfl Tryd_agg_26 rfl rfl) ?_
              obtain ⟨y77, h78, hF⟩ := bind_some hF
              refine rgn hb76 (op_call 3 rfl (caps := []) (args := [.int .i64 a0.fKind, .agg (eGType y74.1)]) (rs := [.p (.bool y77)]) rfl rfl rfl Tryd_cal_46 (shape_want_ok h78) rfl rfl rfl) ?_
              refine rgn hb76 (op_not rfl rfl rfl rfl) ?_
              refine rpt hb76 ?_
              refine reg_nil ?_
              cases hF
              exact post_cut _ rfl (imps [0, 1, 2] ⟨by kernel_rfl, by kernel_rfl, by kernel_rfl, by kernel_rfl, by kernel_rfl, by kernel_rfl, by kernel_rfl, by kernel_rfl, by kernel_rfl, by kernel_rfl, trivial⟩ ⟨by kernel_rfl, by kernel_rfl, by kernel_rfl, trivial⟩)
            iterate 5 (refine rgo_f hb76 ?_)
            refine rpf hb76 ?_
            refine reg_nil ?_
            cases hF
            exact post_cut _ rfl (imps [0, 1, 2] ⟨by kernel_rfl, by kernel_rfl, by kernel_rfl, by kernel_rfl, by kernel_rfl, by kernel_rfl, by kernel_rfl, by kernel_rfl, by kernel_rfl, by kernel_rfl, trivial⟩ ⟨by kernel_rfl, by kernel_rfl, by kernel_rfl, trivial⟩)
          rintro _ rfl
          have hF := hK81
          clear hK81
          refine post_next ?_
          rcases ite_some hF with ⟨hb82, hF⟩ | ⟨hb82, hF⟩
          · refine aw_cond_t rfl hb82 ?_
            refine aw_region ?_
            refine ras ?_
            refine reg_nil ?_
            cases hF
            exact post_cut _ rfl (imps [0, 1, 2] ⟨by kernel_rfl, by kernel_rfl, by kernel_rfl, by kernel_rfl, by kernel_rfl, by kernel_rfl, by kernel_rfl, by kernel_rfl, by kernel_rfl, trivial⟩ ⟨by kernel_rfl, by kernel_rfl, by kernel_rfl, trivial⟩)
          refine aw_cond_f rfl hb82 ?_
          refine aw_skip ?_
          cases hF
          exact post_cut _ rfl (imps [0, 1, 2] ⟨by kernel_rfl, by kernel_rfl, by kernel_rfl, by kernel_rfl, by kernel_rfl, by kernel_rfl, by kernel_rfl, by kernel_rfl, by kernel_rfl, trivial⟩ ⟨by kernel_rfl, by kernel_rfl, by kernel_rfl, trivial⟩)
        rintro _ rfl
        have hF := hK85
        clear hK85
        refine post_next ?_
        iterate 2 (refine aw_seq ?_)
        refine aw_region ?_
        refine rmv ?_
        refine rgp (op_int (k := .i64) (m := x83) (n := 0) rfl rfl rfl rfl rfl rfl) ?_
        refine reg_nil ?_
        refine post_imp (s' := ⟨77, [(3, some (.pv (.vp (eFn c2)))), (4, some (.lp 0 0)), (5, some (.lp 1 0)), (9, some (.pv (.int .i64 x37))), (12, some (.lp 2 0)), (13, some (.pv (.int .i64 x83))), (38, some (.pv (.vs 4 (eLGExpr a0.fKids)))), (39, some (.pv (.int .i64 (a0.fKids.length : Int)))), (40, some (.pv (.int .i64 x38))), (60, some (.pv (.bool (x83 != 0))))], [(0, some (.box 45 (bxv (eGExpr a0)))), (1, some (.box 26 (bxv (eGType zGType)))), (2, some (.box 26 (bxv (eGType y74.1))))], 3, [], [], 0, []⟩) (imps [0, 1, 2] ⟨by kernel_rfl, by kernel_rfl, by kernel_rfl, by kernel_rfl, by kernel_rfl, by kernel_rfl, by kernel_rfl, by kernel_rfl, by kernel_rfl, by kernel_rfl, trivial⟩ ⟨by kernel_rfl, by kernel_rfl, by kernel_rfl, trivial⟩) ?_
        refine post_next ?_
        rcases go_ite hF with ⟨hb86, hF⟩ | ⟨hb86, hF⟩
        · refine aw_cond_t rfl hb86 ?_
          refine aw_seq ?_
          refine aw_region ?_
          refine rgp (op_build (zs := (eGType zGType)) (r := eGType ({ fKind := 0, fClass := [], fN := 0, fOwn := (⟨zGOwner, zGOwner, zGOwner, zGOwner⟩ : A4 GOwner) } : GType)) rfl Tryd_zer_26 (by exact ⟨rfl, rfl, rfl, rfl, rfl, rfl, rfl, rfl, rfl, rfl, rfl, trivial⟩) Tryd_plc_26 rfl rfl rfl rfl) ?_
          refine rmv ?_
          refine rgp (op_store_lp (n := 11) rfl rfl rfl rfl rfl (or_agg Tryd_agg_26) (by rw [Tryd_non_26]; rfl) rfl rfl rfl) ?_
          refine ras ?_
          refine reg_nil ?_
          refine post_imp (s' := ⟨77, [(5, some (.lp 0 0)), (6, some (.pv (.int .i64 x83)))], [(0, some (.box 26 (bxv (eGType ({ fKind := 0, fClass := [], fN := 0, fOwn := (⟨zGOwner, zGOwner, zGOwner, zGOwner⟩ : A4 GOwner) } : GType)))))], 1, [], [], 0, []⟩) (imps [1] ⟨by kernel_rfl, by kernel_rfl, trivial⟩ ⟨by kernel_rfl, trivial⟩) ?_
          refine post_next ?_
          refine aw_ret ?_
          refine post_then_ret ?_
          refine post_block_ret ?_
          refine post_cut_ret ?_
          replace hF := go_stop hF
          iterate 2 (refine post_then_ret ?_)
          refine post_lp_ret ?_
          obtain rfl := Option.some.inj hF
          have hF := elim_stop hK97
          refine post_then_ret ?_
          obtain rfl := Option.some.inj hF
          exact post_ret rfl rfl (.cons _ _ _ _ _ (.agg _ _ _ _ _ 11 _ _ rfl rfl Tryd_agg_26 rfl rfl rfl) (.p _) (.cons _ _ _ _ _ (.tmp _ _ rfl) (.p _) .nil)) (.inl rfl)
        refine aw_cond_f rfl hb86 ?_
        refine aw_skip ?_
        refine post_next ?_
        refine aw_seq ?_
        refine aw_region ?_
        refine rgp (op_load_lp_agg (ps := eGType y74.1) rfl rfl rfl rfl rfl rfl Tryd_agg_26 rfl rfl) ?_
        obtain ⟨y89, h90, hF⟩ := go_bind hF
        refine rgp (op_call 3 rfl (caps := []) (args := [.agg (eGType y74.1)]) (rs := [.p (.bool y89)]) rfl rfl rfl Tryd_cal_24 (kind_Unique_ok h90) rfl rfl rfl) ?_
        refine reg_nil ?_
        refine post_imp (s' := ⟨77, [(3, some (.pv (.vp (eFn c2)))), (4, some (.lp 0 0)), (5, some (.lp 1 0)), (9, some (.pv (.int .i64 x37))), (38, some (.pv (.vs 4 (eLGExpr a0.fKids)))), (39, some (.pv (.int .i64 (a0.fKids.length : Int)))), (40, some (.pv (.int .i64 x38))), (64, some (.pv (.bool y89)))], [(0, some (.box 45 (bxv (eGExpr a0)))), (1, some (.box 26 (bxv (eGType zGType))))], 2, [], [], 0, []⟩) (imps [0, 1] ⟨by kernel_rfl, by kernel_rfl, by kernel_rfl, by kernel_rfl, by kernel_rfl, by kernel_rfl, by kernel_rfl, by kernel_rfl, trivial⟩ ⟨by kernel_rfl, by kernel_rfl, trivial⟩) ?_
        refine post_next ?_
        rcases go_ite hF with ⟨hb91, hF⟩ | ⟨hb91, hF⟩
        · refine aw_cond_t rfl hb91 ?_
          refine aw_region ?_
          refine rmv ?_
          refine rgp (op_int (k := .i64) (m := x37) (n := 1) rfl rfl rfl rfl rfl rfl) ?_
          refine ras ?_
          refine reg_nil ?_
          refine post_imp (s' := ⟨77, [(3, some (.pv (.vp (eFn c2)))), (4, some (.lp 0 0)), (5, some (.lp 1 0)), (9, some (.pv (.int .i64 (w_i64 (x37 + 1))))), (38, some (.pv (.vs 4 (eLGExpr a0.fKids)))), (39, some (.pv (.int .i64 (a0.fKids.length : Int)))), (40, some (.pv (.int .i64 x38)))], [(0, some (.box 45 (bxv (eGExpr a0)))), (1, some (.box 26 (bxv (eGType zGType))))], 2, [], [], 0, []⟩) (imps [0, 1] ⟨by kernel_rfl, by kernel_rfl, by kernel_rfl, by kernel_rfl, by kernel_rfl, by kernel_rfl, by kernel_rfl, trivial⟩ ⟨by kernel_rfl, by kernel_rfl, trivial⟩) ?_
          refine post_block_normal ?_
          exact post_cut _ ⟨(w_i64 (x37 + 1)), rfl, hF⟩ (imps [0, 1] ⟨by kernel_rfl, by kernel_rfl, by kernel_rfl, by kernel_rfl, by kernel_rfl, by kernel_rfl, by kernel_rfl, trivial⟩ ⟨by kernel_rfl, by kernel_rfl, trivial⟩)
        refine aw_cond_f rfl hb91 ?_
        refine aw_skip ?_
        refine post_block_normal ?_
        exact post_cut _ ⟨x37, rfl, hF⟩ (imps [0, 1] ⟨by kernel_rfl, by kernel_rfl, by kernel_rfl, by kernel_rfl, by kernel_rfl, by kernel_rfl, by kernel_rfl, trivial⟩ ⟨by kernel_rfl, by kernel_rfl, trivial⟩)
      rintro x92 hF
      refine post_next ?_
      refine aw_region ?_
      refine rgp (op_int (k := .i64) (m := x38) (n := 1) rfl rfl rfl rfl rfl rfl) ?_
      refine rmv ?_
      refine reg_nil ?_
      refine post_round ?_
      exact rnd_back (ih (x92, w_i64 (x38 + 1)) hF) (imps [0, 1] ⟨by kernel_rfl, by kernel_rfl, by kernel_rfl, by kernel_rfl, by kernel_rfl, by kernel_rfl, by kernel_rfl, trivial⟩ ⟨by kernel_rfl, by kernel_rfl, trivial⟩)
    refine aw_cond_f rfl hb67 ?_
    refine aw_exit ?_
    iterate 2 (refine post_then_exit ?_)
    obtain rfl := Option.some.inj hF
    exact post_lp_break _ ⟨_, rfl, rfl⟩ (imps [0, 1] ⟨by kernel_rfl, by kernel_rfl, by kernel_rfl, trivial⟩ ⟨by kernel_rfl, by kernel_rfl, trivial⟩)
  rintro _ ⟨x95, rfl, rfl⟩
  have hF := elim_next hK97
  clear hK97
  refine post_next ?_
  iterate 2 (refine aw_seq ?_)
  obtain ⟨x99, hF, hK101⟩ := bind_some hF
  refine aw_cut (fun s1 => s1 = ⟨77, [(5, some (.lp 0 0)), (74, some (.pv (.bool x99)))], [(0, some (.box 26 (bxv (eGType zGType))))], 1, [], [], 0, []⟩) ?_ ?_
  · refine aw_region ?_
    refine rmv ?_
    refine rgp (op_int (k := .i64) (m := x95) (n := 0) rfl rfl rfl rfl rfl rfl) ?_
    refine rmv ?_
    rcases ite_some hF with ⟨hb98, hF⟩ | ⟨hb98, hF⟩
    · refine rgn hb98 (op_field_lp rfl rfl Tryd_fld_45_0 rfl rfl) ?_
      refine rgn hb98 (op_load_lp (v := .pv (.int .i64 a0.fKind)) rfl rfl rfl rfl Tryd_one_3 rfl rfl) ?_
      refine rgn hb98 (op_int (k := .i64) (m := a0.fKind) (n := 14) rfl rfl rfl rfl rfl rfl) ?_
      refine rpt hb98 ?_
      refine reg_nil ?_
      cases hF
      exact post_cut _ rfl (imps [1] ⟨by kernel_rfl, by kernel_rfl, trivial⟩ ⟨by kernel_rfl, trivial⟩)
    iterate 3 (refine rgo_f hb98 ?_)
    refine rpf hb98 ?_
    refine reg_nil ?_
    cases hF
    exact post_cut _ rfl (imps [1] ⟨by kernel_rfl, by kernel_rfl, trivial⟩ ⟨by kernel_rfl, trivial⟩)
  rintro _ rfl
  have hF := hK101
  clear hK101
  refine post_next ?_
  rcases ite_some hF with ⟨hb102, hF⟩ | ⟨hb102, hF⟩
  · refine aw_cond_t rfl hb102 ?_
    refine aw_seq ?_
    refine aw_region ?_
    refine rgp (op_build (zs := (eGType zGType)) (r := eGType ({ fKind := 0, fClass := [], fN := 0, fOwn := (⟨zGOwner, zGOwner, zGOwner, zGOwner⟩ : A4 GOwner) } : GType)) rfl Tryd_zer_26 (by exact ⟨rfl, rfl, rfl, rfl, rfl, rfl, rfl, rfl, rfl, rfl, rfl, trivial⟩) Tryd_plc_26 rfl rfl rfl rfl) ?_
    refine rgp (op_store_lp (n := 11) rfl rfl rfl rfl rfl (or_agg Tryd_agg_26) (by rw [Tryd_non_26]; rfl) rfl rfl rfl) ?_
    refine ras ?_
    refine reg_nil ?_
    refine post_imp (s' := ⟨77, [(5, some (.lp 0 0)), (6, some (.pv (.int .i64 22)))], [(0, some (.box 26 (bxv (eGType ({ fKind := 0, fClass := [], fN := 0, fOwn := (⟨zGOwner, zGOwner, zGOwner, zGOwner⟩ : A4 GOwner) } : GType)))))], 1, [], [], 0, []⟩) (imps [0] ⟨by kernel_rfl, by kernel_rfl, trivial⟩ ⟨by kernel_rfl, trivial⟩) ?_
    refine post_next ?_
    refine aw_ret ?_
    refine post_then_ret ?_
    obtain rfl := Option.some.inj hF
    exact post_ret rfl rfl (.cons _ _ _ _ _ (.agg _ _ _ _ _ 11 _ _ rfl rfl Tryd_agg_26 rfl rfl rfl) (.p _) (.cons _ _ _ _ _ (.tmp _ _ rfl) (.p _) .nil)) (.inl rfl)
  refine aw_cond_f rfl hb102 ?_
  refine aw_skip ?_
  refine post_next ?_
  refine aw_seq ?_
  refine aw_region ?_
  refine rgp (op_build (zs := (eGType zGType)) (r := eGType ({ fKind := 1, fClass := [], fN := 0, fOwn := (⟨zGOwner, zGOwner, zGOwner, zGOwner⟩ : A4 GOwner) } : GType)) rfl Tryd_zer_26 (by exact ⟨rfl, rfl, rfl, rfl, rfl, rfl, rfl, rfl, rfl, rfl, rfl, trivial⟩) Tryd_plc_26 rfl rfl rfl rfl) ?_
  refine rgp (op_store_lp (n := 11) rfl rfl rfl rfl rfl (or_agg Tryd_agg_26) (by rw [Tryd_non_26]; rfl) rfl rfl rfl) ?_
  refine ras ?_
  refine reg_nil ?_
  refine post_imp (s' := ⟨77, [(5, some (.lp 0 0)), (6, some (.pv (.int .i64 0)))], [(0, some (.box 26 (bxv (eGType ({ fKind := 1, fClass := [], fN := 0, fOwn := (⟨zGOwner, zGOwner, zGOwner, zGOwner⟩ : A4 GOwner) } : GType)))))], 1, [], [], 0, []⟩) (imps [0] ⟨by kernel_rfl, by kernel_rfl, trivial⟩ ⟨by kernel_rfl, trivial⟩) ?_
  refine post_next ?_
  refine aw_ret ?_
  obtain rfl := Option.some.inj hF
  exact post_ret rfl rfl (.cons _ _ _ _ _ (.agg _ _ _ _ _ 11 _ _ rfl rfl Tryd_agg_26 rfl rfl rfl) (.p _) (.cons _ _ _ _ _ (.tmp _ _ rfl) (.p _) .nil)) (.inl rfl)
def shape_Of_1_knot (k0 : GClass) (k1 : GMethod) : Nat → Clo0
  | 0 => ⟨43, [.vp (eGClass k0), .vp (eGMethod k1), .vp []], fun _ => none, Tryd_cal_43, fun _ _ h => nomatch h⟩
  | n + 1 => ⟨43, [.vp (eGClass k0), .vp (eGMethod k1), .vp (eFn (shape_Of_1_knot k0 k1 n))], fun z => shape_Of_1 z k0 k1 (shape_Of_1_knot k0 k1 n), Tryd_cal_43, fun z r h => shape_Of_1_ok h⟩
theorem shape_Of_1_knot_row (k0 : GClass) (k1 : GMethod) : ∀ n : Nat, eFn (shape_Of_1_knot k0 k1 n) = knotRow 43 [.vp (eGClass k0), .vp (eGMethod k1)] (n + 1)
  | 0 => rfl
  | n + 1 => by
    show [PV.fn 43 ([.vp (eGClass k0), .vp (eGMethod k1)] ++ [.vp (eFn (shape_Of_1_knot k0 k1 n))])] = [PV.fn 43 ([.vp (eGClass k0), .vp (eGMethod k1)] ++ [.vp (knotRow 43 [.vp (eGClass k0), .vp (eGMethod k1)] (n + 1))])]
    rw [shape_Of_1_knot_row k0 k1 n]

def shape_Of (a0 : GClass) (a1 : GMethod) (a2 : GExpr) : Option (GType × Int) :=
  Option.bind (expr_Right a2) fun (y3 : Bool) =>
  if (!y3) = true then
    some (({ fKind := 0, fClass := [], fN := 0, fOwn := (⟨zGOwner, zGOwner, zGOwner, zGOwner⟩ : A4 GOwner) } : GType), 28)
  else
    Option.bind ((shape_Of_1_knot a0 a1 (mGExpr a2 + 1)).q a2) fun (y6 : GType × Int) =>
    some (y6.1, y6.2)
def law19_awake  : Option Bool :=
  Option.bind (shape_Of ({ fName := [], fParams := [], fSuper := [], fAbove := [], fFields := [], fMethods := [], fAt := 0 } : GClass) ({ fName := [], fPure := false, fRet := zGType, fParams := [({ fName := [97], fType := ({ fKind := 1, fClass := [], fN := 0, fOwn := (⟨zGOwner, zGOwner, zGOwner, zGOwner⟩ : A4 GOwner) } : GType), fAt := 0 } : GVar)], fLocals := [], fBody := [], fAt := 0 } : GMethod) ({ fKind := 6, fNum := 0, fName := [], fKids := [({ fKind := 2, fNum := 0, fName := [97], fKids := [] } : GExpr), ({ fKind := 4, fNum := 0, fName := [], fKids := [] } : GExpr)] } : GExpr)) fun (y3 : GType × Int) =>
  Option.bind (shape_Of ({ fName := [], fParams := [], fSuper := [], fAbove := [], fFields := [], fMethods := [], fAt := 0 } : GClass) ({ fName := [], fPure := false, fRet := zGType, fParams := [({ fName := [97], fType := ({ fKind := 1, fClass := [], fN := 0, fOwn := (⟨zGOwner, zGOwner, zGOwner, zGOwner⟩ : A4 GOwner) } : GType), fAt := 0 } : GVar)], fLocals := [], fBody := [], fAt := 0 } : GMethod) ({ fKind := 2, fNum := 0, fName := [97], fKids := [] } : GExpr)) fun (y7 : GType × Int) =>
  if (y3.2 == 14) = true then
    if (y7.2 == 0) = true then
      some (bGType y7.1 ({ fKind := 1, fClass := [], fN := 0, fOwn := (⟨zGOwner, zGOwner, zGOwner, zGOwner⟩ : A4 GOwner) } : GType))
    else
      some false
  else
    some false
def law19_ShapeMore (a0 : GMethod) (a1 : GExpr) (a2 : GVar) : Option Bool :=
  Option.bind (if (decide ((a0.fParams.length : Int) > 60)) = true then
    some true
  else
    if (decide ((a0.fLocals.length : Int) > 60)) = true then
      some true
    else
      Option.bind (ref06_Size (mGExpr a1 + 1) a1) fun (y3 : Int) =>
      some (decide (y3 > 200)) : Option (Bool)) fun x5 =>
  if x5 = true then
    Option.bind law19_awake fun (y9 : Bool) =>
    some y9
  else
    Option.bind (shape_Of ({ fName := [65], fParams := [], fSuper := [], fAbove := [], fFields := [], fMethods := [], fAt := 0 } : GClass) a0 a1) fun (y13 : GType × Int) =>
    Option.bind (room ((([] : List GVar).length : Int) + (a0.fLocals.length : Int)) 120) fun (u19 : Unit) =>
    Option.bind (room (((([] : List GVar) ++ a0.fLocals).length : Int) + ([a2].length : Int)) 120) fun (u21 : Unit) =>
    Option.bind (shape_Of ({ fName := [65], fParams := [], fSuper := [], fAbove := [], fFields := [], fMethods := [], fAt := 0 } : GClass) ({ fName := a0.fName, fPure := a0.fPure, fRet := ({ fKind := a0.fRet.fKind, fClass := a0.fRet.fClass, fN := a0.fRet.fN, fOwn := (⟨({ fKind := a0.fRet.fOwn.a0.fKind, fN := a0.fRet.fOwn.a0.fN } : GOwner), ({ fKind := a0.fRet.fOwn.a1.fKind, fN := a0.fRet.fOwn.a1.fN } : GOwner), ({ fKind := a0.fRet.fOwn.a2.fKind, fN := a0.fRet.fOwn.a2.fN } : GOwner), ({ fKind := a0.fRet.fOwn.a3.fKind, fN := a0.fRet.fOwn.a3.fN } : GOwner)⟩ : A4 GOwner) } : GType), fParams := a0.fParams, fLocals := ((([] : List GVar) ++ a0.fLocals) ++ [a2]), fBody := a0.fBody, fAt := a0.fAt } : GMethod) a1) fun (y25 : GType × Int) =>
    if (y13.2 != 0) = true then
      if (bGType y13.1 ({ fKind := 0, fClass := [], fN := 0, fOwn := (⟨zGOwner, zGOwner, zGOwner, zGOwner⟩ : A4 GOwner) } : GType)) = true then
        if (y13.2 == 13) = true then
          Option.bind law19_awake fun (y30 : Bool) =>
          some y30
        else
          if (y25.2 == y13.2) = true then
            Option.bind law19_awake fun (y33 : Bool) =>
            some y33
          else
            some false
      else
        some false
    else
      if (bGType y13.1 y25.1) = true then
        if (y25.2 == 0) = true then
          Option.bind law19_awake fun (y37 : Bool) =>
          some y37
        else
          some false
      else
        some false
def ref06_kids (a0 : Int) : Option Int :=
  Option.bind (if (decide (a0 ≥ 6)) = true then
    if (decide (a0 ≤ 11)) = true then
      some true
    else
      some (a0 == 14)
  else
    some (a0 == 14) : Option (Bool)) fun x3 =>
  if x3 = true then
    some 2
  else
    Option.bind (if (a0 == 12) = true then
      some true
    else
      some (a0 == 13) : Option (Bool)) fun x8 =>
    if x8 = true then
      some 1
    else
      some 0
def ref02_Letter (a0 : Int) : Option Bool :=
  if (decide (a0 ≥ 97)) = true then
    if (decide (a0 ≤ 122)) = true then
      some true
    else
      if (decide (a0 ≥ 65)) = true then
        some (decide (a0 ≤ 90))
      else
        some false
  else
    if (decide (a0 ≥ 65)) = true then
      some (decide (a0 ≤ 90))
    else
      some false
def ref02_Words  : Option (List (List UInt8)) :=
  some [[99, 108, 97, 115, 115], [101, 120, 116, 101, 110, 100, 115], [114, 101, 112], [112, 101, 101, 114], [119, 111, 114, 108, 100], [97, 110, 121], [117, 110, 105, 113, 117, 101], [112, 117, 114, 101], [118, 111, 105, 100], [105, 110, 116], [105, 102], [101, 108, 115, 101], [119, 104, 105, 108, 101], [114, 101, 116, 117, 114, 110], [110, 101, 119], [109, 111, 118, 101], [100, 101, 108, 101, 116, 101], [116, 104, 105, 115], [110, 117, 108, 108], [105, 110, 112, 117, 116], [110, 105, 108], [115, 97, 109, 101], [99, 97, 115, 116]]
def ref02_Find_L1 (a0 : List UInt8) (y3 : (List (List UInt8))) : Nat → Int → Option (Ctl (Int) (Unit))
  | 0, _ => none
  | n + 1, x11 =>
    if (decide (x11 < (y3.length : Int))) = true then
      Option.bind (idx y3 x11) fun (y22 : List UInt8) =>
      if (y22 == a0) = true then
        some (.stop (w_i64 (x11 + 1)))
      else
        ref02_Find_L1 a0 y3 n (w_i64 (x11 + 1))
    else
      some (.next ())
def ref02_Find (a0 : List UInt8) : Option Int :=
  Option.bind ref02_Words fun (y3 : (List (List UInt8))) =>
  Option.bind (ref02_Find_L1 a0 y3 ((((y3.length : Int) : Int) - (0)).toNat + 1) 0) fun lr26 =>
  Ctl.elim lr26 (fun v => some v) fun _ =>
  some 0
def ref02_Digit (a0 : Int) : Option Bool :=
  if (decide (a0 ≥ 48)) = true then
    some (decide (a0 ≤ 57))
  else
    some false
def ref02_Name_L1 (a0 : List UInt8) : Nat → Int → Option (Ctl (Bool) (Unit))
  | 0, _ => none
  | n + 1, x32 =>
    if (decide (x32 < (a0.length : Int))) = true then
      Option.bind (Option.bind (idx a0 x32) fun (y57 : UInt8) =>
      Option.bind (ref02_Letter (y57.toNat : Int)) fun (y59 : Bool) =>
      if (!y59) = true then
        Option.bind (idx a0 x32) fun (y62 : UInt8) =>
        Option.bind (ref02_Digit (y62.toNat : Int)) fun (y64 : Bool) =>
        some (!y64)
      else
        some false : Option (Bool)) fun x66 =>
      if x66 = true then
        some (.stop false)
      else
        ref02_Name_L1 a0 n (w_i64 (x32 + 1))
    else
      some (.next ())
def ref02_Name (a0 : List UInt8) : Option Bool :=
  Option.bind (if (decide ((a0.length : Int) < 1)) = true then
    some true
  else
    if (decide ((a0.length : Int) > 20)) = true then
      some true
    else
      Option.bind (idx a0 0) fun (y3 : UInt8) =>
      Option.bind (ref02_Letter (y3.toNat : Int)) fun (y5 : Bool) =>
      if (!y5) = true then
        some true
      else
        Option.bind (ref02_Find a0) fun (y8 : Int) =>
        some (decide (y8 > 0)) : Option (Bool)) fun x10 =>
  if x10 = true then
    some false
  else
    Option.bind (ref02_Name_L1 a0 ((((a0.length : Int) : Int) - (0)).toNat + 1) 0) fun lr71 =>
    Ctl.elim lr71 (fun v => some v) fun _ =>
    some true
def ref06_form_L1 (a0 : GExpr) (ref06_form_rec : GExpr → Option Bool) : Nat → Int → Option (Ctl (Bool) (Unit))
  | 0, _ => none
  | n + 1, x62 =>
    if (decide (x62 < (a0.fKids.length : Int))) = true then
      Option.bind (idx a0.fKids x62) fun (y93 : GExpr) =>
      Option.bind (Option.bind (idx a0.fKids x62) fun (y99 : GExpr) =>
      Option.bind (ref06_form_rec y99) fun (y101 : Bool) =>
      if (!y101) = true then
        some true
      else
        if (a0.fKind == 13) = true then
          if (y93.fKind != 2) = true then
            if (y93.fKind != 3) = true then
              some true
            else
              if (a0.fKind == 14) = true then
                some false
              else
                some false
          else
            if (a0.fKind == 14) = true then
              some false
            else
              some false
        else
          if (a0.fKind == 14) = true then
            if (y93.fKind != 2) = true then
              if (y93.fKind != 3) = true then
                some (y93.fKind != 4)
              else
                some false
            else
              some false
          else
            some false : Option (Bool)) fun x112 =>
      if x112 = true then
        some (.stop false)
      else
        ref06_form_L1 a0 ref06_form_rec n (w_i64 (x62 + 1))
    else
      some (.next ())
def ref06_form : Nat → GExpr → Option Bool
  | 0, _ => none
  | n + 1, a0 =>
    Option.bind (if (decide (a0.fKind < 1)) = true then
      some true
    else
      if (decide (a0.fKind > 14)) = true then
        some true
      else
        Option.bind (ref06_kids a0.fKind) fun (y3 : Int) =>
        if ((a0.fKids.length : Int) != y3) = true then
          some true
        else
          if (a0.fKind != 1) = true then
            if (a0.fNum != 0) = true then
              some true
            else
              if (a0.fKind != 2) = true then
                if (!(a0.fName == [])) = true then
                  some true
                else
                  if (decide (a0.fNum < 0)) = true then
                    some true
                  else
                    if (decide (a0.fNum > 999999999)) = true then
                      some true
                    else
                      if (a0.fKind == 2) = true then
                        Option.bind (ref02_Name a0.fName) fun (y13 : Bool) =>
                        some (!y13)
                      else
                        some false
              else
                if (decide (a0.fNum < 0)) = true then
                  some true
                else
                  if (decide (a0.fNum > 999999999)) = true then
                    some true
                  else
                    if (a0.fKind == 2) = true then
                      Option.bind (ref02_Name a0.fName) fun (y18 : Bool) =>
                      some (!y18)
                    else
                      some false
          else
            if (a0.fKind != 2) = true then
              if (!(a0.fName == [])) = true then
                some true
              else
                if (decide (a0.fNum < 0)) = true then
                  some true
                else
                  if (decide (a0.fNum > 999999999)) = true then
                    some true
                  else
                    if (a0.fKind == 2) = true then
                      Option.bind (ref02_Name a0.fName) fun (y25 : Bool) =>
                      some (!y25)
                    else
                      some false
            else
              if (decide (a0.fNum < 0)) = true then
                some true
              else
                if (decide (a0.fNum > 999999999)) = true then
                  some true
                else
                  if (a0.fKind == 2) = true then
                    Option.bind (ref02_Name a0.fName) fun (y30 : Bool) =>
                    some (!y30)
                  else
                    some false : Option (Bool)) fun x32 =>
    if x32 = true then
      some false
    else
      Option.bind (ref06_form_L1 a0 (ref06_form n) ((((a0.fKids.length : Int) : Int) - (0)).toNat + 1) 0) fun lr117 =>
      Ctl.elim lr117 (fun v => some v) fun _ =>
      some true
def ref06_Deep_L1 (a0 : GExpr) (ref06_Deep_rec : GExpr → Option Int) : Nat → Int → Int → Option (Int)
  | 0, _, _ => none
  | n + 1, x10, x11 =>
    if (decide (x11 < (a0.fKids.length : Int))) = true then
      Option.bind (idx a0.fKids x11) fun (y28 : GExpr) =>
      Option.bind (ref06_Deep_rec y28) fun (y30 : Int) =>
      ref06_Deep_L1 a0 ref06_Deep_rec n (if y30 > x10 then y30 else x10) (w_i64 (x11 + 1))
    else
      some x10
def ref06_Deep : Nat → GExpr → Option Int
  | 0, _ => none
  | n + 1, a0 =>
    Option.bind (ref06_Deep_L1 a0 (ref06_Deep n) ((((a0.fKids.length : Int) : Int) - (0)).toNat + 1) 0 0) fun x34 =>
    some (w_i64 (x34 + 1))
def ref06_Right (a0 : GExpr) : Option Bool :=
  Option.bind (ref06_form (mGExpr a0 + 1) a0) fun (y1 : Bool) =>
  if y1 = true then
    Option.bind (ref06_Deep (mGExpr a0 + 1) a0) fun (y4 : Int) =>
    some (decide (y4 ≤ 20))
  else
    some false
def ref15_This_L1 (a0 : GClass) : Nat → (List GOwner) → Int → Option ((List GOwner))
  | 0, _, _ => none
  | n + 1, x6, x7 =>
    if (decide (x7 < (a0.fParams.length : Int))) = true then
      Option.bind (room ((x6.length : Int) + ([({ fKind := 3, fN := w_i64 (x7 + 1) } : GOwner)].length : Int)) 16) fun (u18 : Unit) =>
      ref15_This_L1 a0 n (x6 ++ [({ fKind := 3, fN := w_i64 (x7 + 1) } : GOwner)]) (w_i64 (x7 + 1))
    else
      some x6
def ref15_This (a0 : GClass) : Option (List GOwner) :=
  Option.bind (ref15_This_L1 a0 ((((a0.fParams.length : Int) : Int) - (0)).toNat + 1) [({ fKind := 2, fN := 0 } : GOwner)] 0) fun x22 =>
  some x22
def ref18_This_L1 (y3 : (List GOwner)) : Nat → GType → Int → Option (GType)
  | 0, _, _ => none
  | n + 1, x10, x11 =>
    if (decide (x11 ≤ x10.fN)) = true then
      Option.bind (idx y3 x11) fun (y28 : GOwner) =>
      Option.bind (idx (x10.fOwn).l x11) fun (y30 : GOwner) =>
      ref18_This_L1 y3 n ({ x10 with fOwn := (A4.set x10.fOwn (x11 : Int).toNat y28) } : GType) (w_i64 (x11 + 1))
    else
      some x10
def ref18_This (a0 : GClass) : Option GType :=
  Option.bind (ref15_This a0) fun (y3 : (List GOwner)) =>
  Option.bind (ref18_This_L1 y3 5 ({ fKind := 2, fClass := a0.fName, fN := (if (a0.fParams.length : Int) < 3 then (a0.fParams.length : Int) else 3), fOwn := (⟨zGOwner, zGOwner, zGOwner, zGOwner⟩ : A4 GOwner) } : GType) 0) fun x34 =>
  some x34
def ref12_Vars (a0 : GMethod) : Option (List GVar) :=
  Option.bind (room ((([] : List GVar).length : Int) + (a0.fParams.length : Int)) 120) fun (u1 : Unit) =>
  Option.bind (room (((([] : List GVar) ++ a0.fParams).length : Int) + (a0.fLocals.length : Int)) 120) fun (u3 : Unit) =>
  some ((([] : List GVar) ++ a0.fParams) ++ a0.fLocals)
def ref18_Place_L1 (a1 : List UInt8) (y3 : (List GVar)) : Nat → Int → Option (Ctl (Int) (Unit))
  | 0, _ => none
  | n + 1, x11 =>
    if (decide (x11 < (y3.length : Int))) = true then
      Option.bind (idx y3 x11) fun (y22 : GVar) =>
      if (y22.fName == a1) = true then
        some (.stop x11)
      else
        ref18_Place_L1 a1 y3 n (w_i64 (x11 + 1))
    else
      some (.next ())
def ref18_Place (a0 : GMethod) (a1 : List UInt8) : Option Int :=
  Option.bind (ref12_Vars a0) fun (y3 : (List GVar)) =>
  Option.bind (ref18_Place_L1 a1 y3 ((((y3.length : Int) : Int) - (0)).toNat + 1) 0) fun lr26 =>
  Ctl.elim lr26 (fun v => some v) fun _ =>
  some (-1)
def ref18_Type (a0 : GClass) (a1 : GMethod) (a2 : List UInt8) : Option (GType × Bool) :=
  if (a2 == [116, 104, 105, 115]) = true then
    Option.bind (ref18_This a0) fun (y2 : GType) =>
    some (y2, true)
  else
    Option.bind (ref18_Place a1 a2) fun (y6 : Int) =>
    if (decide (y6 < 0)) = true then
      some (({ fKind := 0, fClass := [], fN := 0, fOwn := (⟨zGOwner, zGOwner, zGOwner, zGOwner⟩ : A4 GOwner) } : GType), false)
    else
      Option.bind (ref12_Vars a1) fun (y9 : (List GVar)) =>
      Option.bind (idx y9 y6) fun (y11 : GVar) =>
      some (y11.fType, true)
def ref05_Unique (a0 : GType) : Option Bool :=
  if (a0.fKind == 2) = true then
    some (a0.fOwn.a0.fKind == 6)
  else
    some false
def ref19_number  : Option GType :=
  some ({ fKind := 1, fClass := [], fN := 0, fOwn := (⟨zGOwner, zGOwner, zGOwner, zGOwner⟩ : A4 GOwner) } : GType)
def ref19_of_L1 (a0 : GClass) (a1 : GMethod) (a2 : GExpr) (ref19_of_rec : GClass → GMethod → GExpr → Option (GType × Int)) : Nat → Bool → Int → Option (Ctl (GType × Int) (Bool))
  | 0, _, _ => none
  | n + 1, x37, x38 =>
    if (decide (x38 < (a2.fKids.length : Int))) = true then
      Option.bind (idx a2.fKids x38) fun (y73 : GExpr) =>
      Option.bind (ref19_of_rec a0 a1 y73) fun (y75 : GType × Int) =>
      if (y75.2 != 0) = true then
        some (.stop (({ fKind := 0, fClass := [], fN := 0, fOwn := (⟨zGOwner, zGOwner, zGOwner, zGOwner⟩ : A4 GOwner) } : GType), y75.2))
      else
        Option.bind (if (a2.fKind == 13) = true then
          some (y75.1.fKind == 2)
        else
          some (y75.1.fKind == 1) : Option (Bool)) fun x79 =>
        Option.bind (if (a2.fKind == 14) = true then
          if (y75.1.fKind == 2) = true then
            some true
          else
            some (y75.1.fKind == 3)
        else
          some x79 : Option (Bool)) fun x84 =>
        if (!x84) = true then
          some (.stop (({ fKind := 0, fClass := [], fN := 0, fOwn := (⟨zGOwner, zGOwner, zGOwner, zGOwner⟩ : A4 GOwner) } : GType), 14))
        else
          Option.bind (if x37 = true then
            some true
          else
            if (a2.fKind == 14) = true then
              Option.bind (ref05_Unique y75.1) fun (y90 : Bool) =>
              some y90
            else
              some false : Option (Bool)) fun x92 =>
          ref19_of_L1 a0 a1 a2 ref19_of_rec n x92 (w_i64 (x38 + 1))
    else
      some (.next x37)
def ref19_of : Nat → GClass → GMethod → GExpr → Option (GType × Int)
  | 0, _, _, _ => none
  | n + 1, a0, a1, a2 =>
    if (a2.fKind == 2) = true then
      Option.bind (ref18_Type a0 a1 a2.fName) fun (y4 : GType × Bool) =>
      if (!y4.2) = true then
        some (({ fKind := 0, fClass := [], fN := 0, fOwn := (⟨zGOwner, zGOwner, zGOwner, zGOwner⟩ : A4 GOwner) } : GType), 13)
      else
        some (y4.1, 0)
    else
      if (a2.fKind == 3) = true then
        Option.bind (ref18_This a0) fun (y8 : GType) =>
        some (y8, 0)
      else
        if (a2.fKind == 4) = true then
          some (({ fKind := 3, fClass := [], fN := 0, fOwn := (⟨zGOwner, zGOwner, zGOwner, zGOwner⟩ : A4 GOwner) } : GType), 0)
        else
          Option.bind (ref19_of_L1 a0 a1 a2 (ref19_of n) ((((a2.fKids.length : Int) : Int) - (0)).toNat + 1) false 0) fun lr98 =>
          Ctl.elim lr98 (fun v => some v) fun x97 =>
          if x97 = true then
            some (({ fKind := 0, fClass := [], fN := 0, fOwn := (⟨zGOwner, zGOwner, zGOwner, zGOwner⟩ : A4 GOwner) } : GType), 22)
          else
            Option.bind ref19_number fun (y101 : GType) =>
            some (y101, 0)
def ref19_Of (a0 : GClass) (a1 : GMethod) (a2 : GExpr) : Option (GType × Int) :=
  Option.bind (ref06_Right a2) fun (y3 : Bool) =>
  if (!y3) = true then
    some (({ fKind := 0, fClass := [], fN := 0, fOwn := (⟨zGOwner, zGOwner, zGOwner, zGOwner⟩ : A4 GOwner) } : GType), 28)
  else
    Option.bind (ref19_of (mGClass a0 + mGMethod a1 + mGExpr a2 + 1) a0 a1 a2) fun (y6 : GType × Int) =>
    some (y6.1, y6.2)
def law19_ShapeOf (a0 : GClass) (a1 : GMethod) (a2 : GExpr) : Option Bool :=
  Option.bind (if (decide ((a1.fParams.length : Int) > 60)) = true then
    some true
  else
    if (decide ((a1.fLocals.length : Int) > 60)) = true then
      some true
    else
      if (decide ((a0.fParams.length : Int) > 60)) = true then
        some true
      else
        Option.bind (ref06_Size (mGExpr a2 + 1) a2) fun (y4 : Int) =>
        some (decide (y4 > 200)) : Option (Bool)) fun x6 =>
  if x6 = true then
    Option.bind law19_awake fun (y10 : Bool) =>
    some y10
  else
    Option.bind (shape_Of a0 a1 a2) fun (y14 : GType × Int) =>
    Option.bind (ref19_Of a0 a1 a2) fun (y18 : GType × Int) =>
    if (bGType y14.1 y18.1) = true then
      if (y14.2 == y18.2) = true then
        Option.bind law19_awake fun (y22 : Bool) =>
        some y22
      else
        some false
    else
      some false

end
end Go.Proofs.YtkmaieldmcjbfaaDoor
