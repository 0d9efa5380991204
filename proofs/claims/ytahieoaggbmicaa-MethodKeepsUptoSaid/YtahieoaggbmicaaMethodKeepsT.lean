/- A part of the proof that the law MethodKeeps gives true for every input. -/
import Derived.Test.YtahieoaggbmicaaMethodKeepsA3
/- The types and the plain functions. -/
namespace Go.Proofs.Ytahieoaggbmicaa
open Go.RowKit Go.Abs
noncomputable section
structure GOwner where
  fKind : Int
  fN : Int
  deriving DecidableEq
abbrev zGOwner : GOwner := ({ fKind := 0, fN := 0 } : GOwner)
abbrev eGOwner (x : GOwner) : List PV := [.int .i64 x.fKind, .int .i64 x.fN]
structure GType where
  fKind : Int
  fClass : List UInt8
  fN : Int
  fOwn : A4 GOwner
  deriving DecidableEq
abbrev zGType : GType := ({ fKind := 0, fClass := [], fN := 0, fOwn := (⟨zGOwner, zGOwner, zGOwner, zGOwner⟩ : A4 GOwner) } : GType)
abbrev eGType (x : GType) : List PV := [.int .i64 x.fKind, .str x.fClass, .int .i64 x.fN, .int .i64 x.fOwn.a0.fKind, .int .i64 x.fOwn.a0.fN, .int .i64 x.fOwn.a1.fKind, .int .i64 x.fOwn.a1.fN, .int .i64 x.fOwn.a2.fKind, .int .i64 x.fOwn.a2.fN, .int .i64 x.fOwn.a3.fKind, .int .i64 x.fOwn.a3.fN]
structure GVar where
  fName : List UInt8
  fType : GType
  fAt : Int
  deriving DecidableEq
abbrev zGVar : GVar := ({ fName := [], fType := zGType, fAt := 0 } : GVar)
abbrev eGVar (x : GVar) : List PV := [.str x.fName, .int .i64 x.fType.fKind, .str x.fType.fClass, .int .i64 x.fType.fN, .int .i64 x.fType.fOwn.a0.fKind, .int .i64 x.fType.fOwn.a0.fN, .int .i64 x.fType.fOwn.a1.fKind, .int .i64 x.fType.fOwn.a1.fN, .int .i64 x.fType.fOwn.a2.fKind, .int .i64 x.fType.fOwn.a2.fN, .int .i64 x.fType.fOwn.a3.fKind, .int .i64 x.fType.fOwn.a3.fN, .int .i64 x.fAt]
structure GExpr where
  fKind : Int
  fNum : Int
  fName : List UInt8
  fKids : List GExpr
abbrev zGExpr : GExpr := ({ fKind := 0, fNum := 0, fName := [], fKids := [] } : GExpr)
mutual
def rGExpr : GExpr → List PV
  | ⟨z0, z1, z2, z3⟩ => [.int .i64 z0, .int .i64 z1, .str z2, .vs 4 (eLGExpr z3)]
def eLGExpr : List GExpr → List (List PV)
  | [] => []
  | x :: l => rGExpr x :: eLGExpr l
end
abbrev eGExpr (x : GExpr) : List PV := [.int .i64 x.fKind, .int .i64 x.fNum, .str x.fName, .vs 4 (eLGExpr x.fKids)]
theorem rGExpr_eq (x : GExpr) : rGExpr x = eGExpr x := by cases x; simp only [rGExpr]
theorem eLGExpr_map : ∀ l : List GExpr, eLGExpr l = l.map eGExpr
  | [] => by simp only [eLGExpr, List.map_nil]
  | x :: l => by simp only [eLGExpr, List.map_cons, rGExpr_eq, eLGExpr_map l]
mutual
def mGExpr : GExpr → Nat
  | ⟨_, _, _, z3⟩ => 1 + mLGExpr z3
def mLGExpr : List GExpr → Nat
  | [] => 0
  | x :: l => mGExpr x + mLGExpr l
end
structure GStmt where
  fKind : Int
  fX : List UInt8
  fY : List UInt8
  fName : List UInt8
  fType : GType
  fE : GExpr
  fArgs : List GExpr
  fBody : List GStmt
  fElse : List GStmt
  fAt : Int
abbrev zGStmt : GStmt := ({ fKind := 0, fX := [], fY := [], fName := [], fType := zGType, fE := zGExpr, fArgs := [], fBody := [], fElse := [], fAt := 0 } : GStmt)
mutual
def rGStmt : GStmt → List PV
  | ⟨z0, z1, z2, z3, z4, z5, z6, z7, z8, z9⟩ => [.int .i64 z0, .str z1, .str z2, .str z3, .int .i64 z4.fKind, .str z4.fClass, .int .i64 z4.fN, .int .i64 z4.fOwn.a0.fKind, .int .i64 z4.fOwn.a0.fN, .int .i64 z4.fOwn.a1.fKind, .int .i64 z4.fOwn.a1.fN, .int .i64 z4.fOwn.a2.fKind, .int .i64 z4.fOwn.a2.fN, .int .i64 z4.fOwn.a3.fKind, .int .i64 z4.fOwn.a3.fN, .int .i64 z5.fKind, .int .i64 z5.fNum, .str z5.fName, .vs 4 (eLGExpr z5.fKids), .vs 4 (eLGExpr z6), .vs 23 (eLGStmt z7), .vs 23 (eLGStmt z8), .int .i64 z9]
def eLGStmt : List GStmt → List (List PV)
  | [] => []
  | x :: l => rGStmt x :: eLGStmt l
end
abbrev eGStmt (x : GStmt) : List PV := [.int .i64 x.fKind, .str x.fX, .str x.fY, .str x.fName, .int .i64 x.fType.fKind, .str x.fType.fClass, .int .i64 x.fType.fN, .int .i64 x.fType.fOwn.a0.fKind, .int .i64 x.fType.fOwn.a0.fN, .int .i64 x.fType.fOwn.a1.fKind, .int .i64 x.fType.fOwn.a1.fN, .int .i64 x.fType.fOwn.a2.fKind, .int .i64 x.fType.fOwn.a2.fN, .int .i64 x.fType.fOwn.a3.fKind, .int .i64 x.fType.fOwn.a3.fN, .int .i64 x.fE.fKind, .int .i64 x.fE.fNum, .str x.fE.fName, .vs 4 (eLGExpr x.fE.fKids), .vs 4 (eLGExpr x.fArgs), .vs 23 (eLGStmt x.fBody), .vs 23 (eLGStmt x.fElse), .int .i64 x.fAt]
theorem rGStmt_eq (x : GStmt) : rGStmt x = eGStmt x := by cases x; simp only [rGStmt]
theorem eLGStmt_map : ∀ l : List GStmt, eLGStmt l = l.map eGStmt
  | [] => by simp only [eLGStmt, List.map_nil]
  | x :: l => by simp only [eLGStmt, List.map_cons, rGStmt_eq, eLGStmt_map l]
mutual
def mGStmt : GStmt → Nat
  | ⟨_, _, _, _, _, z5, z6, z7, z8, _⟩ => 1 + mGExpr z5 + mLGExpr z6 + mLGStmt z7 + mLGStmt z8
def mLGStmt : List GStmt → Nat
  | [] => 0
  | x :: l => mGStmt x + mLGStmt l
end
structure GMethod where
  fName : List UInt8
  fPure : Bool
  fRet : GType
  fParams : List GVar
  fLocals : List GVar
  fBody : List GStmt
  fAt : Int
abbrev zGMethod : GMethod := ({ fName := [], fPure := false, fRet := zGType, fParams := [], fLocals := [], fBody := [], fAt := 0 } : GMethod)
def mGMethod : GMethod → Nat
  | ⟨_, _, _, _, _, z5, _⟩ => 1 + mLGStmt z5
def mLGMethod : List GMethod → Nat
  | [] => 0
  | x :: l => mGMethod x + mLGMethod l
abbrev eGMethod (x : GMethod) : List PV := [.str x.fName, .bool x.fPure, .int .i64 x.fRet.fKind, .str x.fRet.fClass, .int .i64 x.fRet.fN, .int .i64 x.fRet.fOwn.a0.fKind, .int .i64 x.fRet.fOwn.a0.fN, .int .i64 x.fRet.fOwn.a1.fKind, .int .i64 x.fRet.fOwn.a1.fN, .int .i64 x.fRet.fOwn.a2.fKind, .int .i64 x.fRet.fOwn.a2.fN, .int .i64 x.fRet.fOwn.a3.fKind, .int .i64 x.fRet.fOwn.a3.fN, .vs 13 (List.map eGVar x.fParams), .vs 13 (List.map eGVar x.fLocals), .vs 23 (eLGStmt x.fBody), .int .i64 x.fAt]
structure GClass where
  fName : List UInt8
  fParams : List (List UInt8)
  fSuper : List UInt8
  fAbove : List GOwner
  fFields : List GVar
  fMethods : List GMethod
  fAt : Int
abbrev zGClass : GClass := ({ fName := [], fParams := [], fSuper := [], fAbove := [], fFields := [], fMethods := [], fAt := 0 } : GClass)
def mGClass : GClass → Nat
  | ⟨_, _, _, _, _, z5, _⟩ => 1 + mLGMethod z5
def mLGClass : List GClass → Nat
  | [] => 0
  | x :: l => mGClass x + mLGClass l
abbrev eGClass (x : GClass) : List PV := [.str x.fName, .vs 1 (List.map eS x.fParams), .str x.fSuper, .vs 2 (List.map eGOwner x.fAbove), .vs 13 (List.map eGVar x.fFields), .vs 17 (List.map eGMethod x.fMethods), .int .i64 x.fAt]
structure GFault where
  fErr : Int
  fAt : Int
  deriving DecidableEq
abbrev zGFault : GFault := ({ fErr := 0, fAt := 0 } : GFault)
abbrev eGFault (x : GFault) : List PV := [.int .i64 x.fErr, .int .i64 x.fAt]
structure GNote_ref12 where
  fClass : Int
  fMethod : Int
  fVar : Int
  fType : GType
  fAt : Int
  deriving DecidableEq
abbrev zGNote_ref12 : GNote_ref12 := ({ fClass := 0, fMethod := 0, fVar := 0, fType := zGType, fAt := 0 } : GNote_ref12)
abbrev eGNote_ref12 (x : GNote_ref12) : List PV := [.int .i64 x.fClass, .int .i64 x.fMethod, .int .i64 x.fVar, .int .i64 x.fType.fKind, .str x.fType.fClass, .int .i64 x.fType.fN, .int .i64 x.fType.fOwn.a0.fKind, .int .i64 x.fType.fOwn.a0.fN, .int .i64 x.fType.fOwn.a1.fKind, .int .i64 x.fType.fOwn.a1.fN, .int .i64 x.fType.fOwn.a2.fKind, .int .i64 x.fType.fOwn.a2.fN, .int .i64 x.fType.fOwn.a3.fKind, .int .i64 x.fType.fOwn.a3.fN, .int .i64 x.fAt]
structure GLine_ref12 where
  fClass : Int
  fMethod : Int
  fDeep : Int
  fS : GStmt
abbrev zGLine_ref12 : GLine_ref12 := ({ fClass := 0, fMethod := 0, fDeep := 0, fS := zGStmt } : GLine_ref12)
def mGLine_ref12 : GLine_ref12 → Nat
  | ⟨_, _, _, z3⟩ => 1 + mGStmt z3
def mLGLine_ref12 : List GLine_ref12 → Nat
  | [] => 0
  | x :: l => mGLine_ref12 x + mLGLine_ref12 l
abbrev eGLine_ref12 (x : GLine_ref12) : List PV := [.int .i64 x.fClass, .int .i64 x.fMethod, .int .i64 x.fDeep, .int .i64 x.fS.fKind, .str x.fS.fX, .str x.fS.fY, .str x.fS.fName, .int .i64 x.fS.fType.fKind, .str x.fS.fType.fClass, .int .i64 x.fS.fType.fN, .int .i64 x.fS.fType.fOwn.a0.fKind, .int .i64 x.fS.fType.fOwn.a0.fN, .int .i64 x.fS.fType.fOwn.a1.fKind, .int .i64 x.fS.fType.fOwn.a1.fN, .int .i64 x.fS.fType.fOwn.a2.fKind, .int .i64 x.fS.fType.fOwn.a2.fN, .int .i64 x.fS.fType.fOwn.a3.fKind, .int .i64 x.fS.fType.fOwn.a3.fN, .int .i64 x.fS.fE.fKind, .int .i64 x.fS.fE.fNum, .str x.fS.fE.fName, .vs 4 (eLGExpr x.fS.fE.fKids), .vs 4 (eLGExpr x.fS.fArgs), .vs 23 (eLGStmt x.fS.fBody), .vs 23 (eLGStmt x.fS.fElse), .int .i64 x.fS.fAt]
structure GFound_method where
  fClass : List UInt8
  fMethod : GMethod
abbrev zGFound_method : GFound_method := ({ fClass := [], fMethod := zGMethod } : GFound_method)
def mGFound_method : GFound_method → Nat
  | ⟨_, z1⟩ => 1 + mGMethod z1
def mLGFound_method : List GFound_method → Nat
  | [] => 0
  | x :: l => mGFound_method x + mLGFound_method l
abbrev eGFound_method (x : GFound_method) : List PV := [.str x.fClass, .str x.fMethod.fName, .bool x.fMethod.fPure, .int .i64 x.fMethod.fRet.fKind, .str x.fMethod.fRet.fClass, .int .i64 x.fMethod.fRet.fN, .int .i64 x.fMethod.fRet.fOwn.a0.fKind, .int .i64 x.fMethod.fRet.fOwn.a0.fN, .int .i64 x.fMethod.fRet.fOwn.a1.fKind, .int .i64 x.fMethod.fRet.fOwn.a1.fN, .int .i64 x.fMethod.fRet.fOwn.a2.fKind, .int .i64 x.fMethod.fRet.fOwn.a2.fN, .int .i64 x.fMethod.fRet.fOwn.a3.fKind, .int .i64 x.fMethod.fRet.fOwn.a3.fN, .vs 13 (List.map eGVar x.fMethod.fParams), .vs 13 (List.map eGVar x.fMethod.fLocals), .vs 23 (eLGStmt x.fMethod.fBody), .int .i64 x.fMethod.fAt]
structure Gheld_method where
  fMethod : GMethod
  fclass : Int
abbrev zGheld_method : Gheld_method := ({ fMethod := zGMethod, fclass := 0 } : Gheld_method)
def mGheld_method : Gheld_method → Nat
  | ⟨z0, _⟩ => 1 + mGMethod z0
def mLGheld_method : List Gheld_method → Nat
  | [] => 0
  | x :: l => mGheld_method x + mLGheld_method l
abbrev eGheld_method (x : Gheld_method) : List PV := [.str x.fMethod.fName, .bool x.fMethod.fPure, .int .i64 x.fMethod.fRet.fKind, .str x.fMethod.fRet.fClass, .int .i64 x.fMethod.fRet.fN, .int .i64 x.fMethod.fRet.fOwn.a0.fKind, .int .i64 x.fMethod.fRet.fOwn.a0.fN, .int .i64 x.fMethod.fRet.fOwn.a1.fKind, .int .i64 x.fMethod.fRet.fOwn.a1.fN, .int .i64 x.fMethod.fRet.fOwn.a2.fKind, .int .i64 x.fMethod.fRet.fOwn.a2.fN, .int .i64 x.fMethod.fRet.fOwn.a3.fKind, .int .i64 x.fMethod.fRet.fOwn.a3.fN, .vs 13 (List.map eGVar x.fMethod.fParams), .vs 13 (List.map eGVar x.fMethod.fLocals), .vs 23 (eLGStmt x.fMethod.fBody), .int .i64 x.fMethod.fAt, .int .i64 x.fclass]
def bGType (a b : GType) : Bool := (a.fKind == b.fKind && (a.fClass == b.fClass && (a.fN == b.fN && (a.fOwn.a0.fKind == b.fOwn.a0.fKind && (a.fOwn.a0.fN == b.fOwn.a0.fN && (a.fOwn.a1.fKind == b.fOwn.a1.fKind && (a.fOwn.a1.fN == b.fOwn.a1.fN && (a.fOwn.a2.fKind == b.fOwn.a2.fKind && (a.fOwn.a2.fN == b.fOwn.a2.fN && (a.fOwn.a3.fKind == b.fOwn.a3.fKind && (a.fOwn.a3.fN == b.fOwn.a3.fN && true)))))))))))
def bGOwner (a b : GOwner) : Bool := (a.fKind == b.fKind && (a.fN == b.fN && true))
def bGFault (a b : GFault) : Bool := (a.fErr == b.fErr && (a.fAt == b.fAt && true))
def ref10_uniques_L1 (a0 : GMethod) : Nat → Int → Int → Option (Int)
  | 0, _, _ => none
  | n + 1, x10, x11 =>
    if (decide (x11 < (a0.fParams.length : Int))) = true then
      Option.bind (Option.bind (idx a0.fParams x11) fun (y26 : GVar) =>
      if (y26.fType.fOwn.a0.fKind == 6) = true then
        some (w_i64 (x10 + 1))
      else
        some x10 : Option (Int)) fun x29 =>
      ref10_uniques_L1 a0 n x29 (w_i64 (x11 + 1))
    else
      some x10
def ref10_uniques_L2 (a0 : GMethod) : Nat → Int → Int → Option (Int)
  | 0, _, _ => none
  | n + 1, x45, x46 =>
    if (decide (x46 < (a0.fLocals.length : Int))) = true then
      Option.bind (Option.bind (idx a0.fLocals x46) fun (y61 : GVar) =>
      if (y61.fType.fOwn.a0.fKind == 6) = true then
        some (w_i64 (x45 + 1))
      else
        some x45 : Option (Int)) fun x64 =>
      ref10_uniques_L2 a0 n x64 (w_i64 (x46 + 1))
    else
      some x45
def ref10_uniques (a0 : GMethod) : Option Int :=
  Option.bind (ref10_uniques_L1 a0 ((((a0.fParams.length : Int) : Int) - (0)).toNat + 1) 0 0) fun x34 =>
  Option.bind (ref10_uniques_L2 a0 ((((a0.fLocals.length : Int) : Int) - (0)).toNat + 1) x34 0) fun x69 =>
  some x69
def ref10_kids_L1 (a0 : GExpr) (a1 : Int) (ref10_kids_rec : GExpr → Int → Option Bool) : Nat → Int → Option (Ctl (Bool) (Unit))
  | 0, _ => none
  | n + 1, x16 =>
    if (decide (x16 < (a0.fKids.length : Int))) = true then
      Option.bind (idx a0.fKids x16) fun (y33 : GExpr) =>
      Option.bind (ref10_kids_rec y33 (w_i64 (a1 - 1))) fun (y35 : Bool) =>
      if y35 = true then
        some (.stop true)
      else
        ref10_kids_L1 a0 a1 ref10_kids_rec n (w_i64 (x16 + 1))
    else
      some (.next ())
def ref10_kids : Nat → GExpr → Int → Option Bool
  | 0, _, _ => none
  | n + 1, a0, a1 =>
    Option.bind (if (decide (a1 < 0)) = true then
      some true
    else
      some (decide ((a0.fKids.length : Int) > 4)) : Option (Bool)) fun x2 =>
    if x2 = true then
      some true
    else
      Option.bind (ref10_kids_L1 a0 a1 (ref10_kids n) ((((a0.fKids.length : Int) : Int) - (0)).toNat + 1) 0) fun lr39 =>
      Ctl.elim lr39 (fun v => some v) fun _ =>
      some false
def ref10_much_L1 (a0 : GStmt) : Nat → Int → Option (Ctl (Bool) (Unit))
  | 0, _ => none
  | n + 1, x21 =>
    if (decide (x21 < (a0.fArgs.length : Int))) = true then
      Option.bind (idx a0.fArgs x21) fun (y38 : GExpr) =>
      Option.bind (ref10_kids (mGExpr y38 + 1) y38 25) fun (y40 : Bool) =>
      if y40 = true then
        some (.stop true)
      else
        ref10_much_L1 a0 n (w_i64 (x21 + 1))
    else
      some (.next ())
def ref10_much_L2 (a0 : GStmt) (a1 : Int) (ref10_much_rec : GStmt → Int → Option Bool) : Nat → Int → Option (Ctl (Bool) (Unit))
  | 0, _ => none
  | n + 1, x56 =>
    if (decide (x56 < (a0.fBody.length : Int))) = true then
      Option.bind (idx a0.fBody x56) fun (y73 : GStmt) =>
      Option.bind (ref10_much_rec y73 (w_i64 (a1 - 1))) fun (y75 : Bool) =>
      if y75 = true then
        some (.stop true)
      else
        ref10_much_L2 a0 a1 ref10_much_rec n (w_i64 (x56 + 1))
    else
      some (.next ())
def ref10_much_L3 (a0 : GStmt) (a1 : Int) (ref10_much_rec : GStmt → Int → Option Bool) : Nat → Int → Option (Ctl (Bool) (Unit))
  | 0, _ => none
  | n + 1, x91 =>
    if (decide (x91 < (a0.fElse.length : Int))) = true then
      Option.bind (idx a0.fElse x91) fun (y108 : GStmt) =>
      Option.bind (ref10_much_rec y108 (w_i64 (a1 - 1))) fun (y110 : Bool) =>
      if y110 = true then
        some (.stop true)
      else
        ref10_much_L3 a0 a1 ref10_much_rec n (w_i64 (x91 + 1))
    else
      some (.next ())
def ref10_much : Nat → GStmt → Int → Option Bool
  | 0, _, _ => none
  | n + 1, a0, a1 =>
    Option.bind (if (decide (a1 < 0)) = true then
      some true
    else
      if (decide ((a0.fBody.length : Int) > 500)) = true then
        some true
      else
        if (decide ((a0.fElse.length : Int) > 500)) = true then
          some true
        else
          if (decide ((a0.fArgs.length : Int) > 20)) = true then
            some true
          else
            Option.bind (ref10_kids (mGExpr a0.fE + 1) a0.fE 25) fun (y5 : Bool) =>
            some y5 : Option (Bool)) fun x7 =>
    if x7 = true then
      some true
    else
      Option.bind (ref10_much_L1 a0 ((((a0.fArgs.length : Int) : Int) - (0)).toNat + 1) 0) fun lr44 =>
      Ctl.elim lr44 (fun v => some v) fun _ =>
      Option.bind (ref10_much_L2 a0 a1 (ref10_much n) ((((a0.fBody.length : Int) : Int) - (0)).toNat + 1) 0) fun lr79 =>
      Ctl.elim lr79 (fun v => some v) fun _ =>
      Option.bind (ref10_much_L3 a0 a1 (ref10_much n) ((((a0.fElse.length : Int) : Int) - (0)).toNat + 1) 0) fun lr114 =>
      Ctl.elim lr114 (fun v => some v) fun _ =>
      some false
def ref08_Size_L1 (a0 : GStmt) (ref08_Size_rec : GStmt → Option Int) : Nat → Int → Int → Option (Int)
  | 0, _, _ => none
  | n + 1, x10, x11 =>
    if (decide (x11 < (a0.fBody.length : Int))) = true then
      Option.bind (idx a0.fBody x11) fun (y28 : GStmt) =>
      Option.bind (ref08_Size_rec y28) fun (y30 : Int) =>
      ref08_Size_L1 a0 ref08_Size_rec n (w_i64 (x10 + y30)) (w_i64 (x11 + 1))
    else
      some x10
def ref08_Size_L2 (a0 : GStmt) (ref08_Size_rec : GStmt → Option Int) : Nat → Int → Int → Option (Int)
  | 0, _, _ => none
  | n + 1, x45, x46 =>
    if (decide (x46 < (a0.fElse.length : Int))) = true then
      Option.bind (idx a0.fElse x46) fun (y63 : GStmt) =>
      Option.bind (ref08_Size_rec y63) fun (y65 : Int) =>
      ref08_Size_L2 a0 ref08_Size_rec n (w_i64 (x45 + y65)) (w_i64 (x46 + 1))
    else
      some x45
def ref08_Size : Nat → GStmt → Option Int
  | 0, _ => none
  | n + 1, a0 =>
    Option.bind (ref08_Size_L1 a0 (ref08_Size n) ((((a0.fBody.length : Int) : Int) - (0)).toNat + 1) 1 0) fun x34 =>
    Option.bind (ref08_Size_L2 a0 (ref08_Size n) ((((a0.fElse.length : Int) : Int) - (0)).toNat + 1) x34 0) fun x69 =>
    some x69
def ref10_Heavy_L3 (y685 : GMethod) : Nat → Int → Int → Option (Ctl (Bool) (Int))
  | 0, _, _ => none
  | n + 1, x714, x715 =>
    if (decide (x715 < (y685.fBody.length : Int))) = true then
      Option.bind (if (decide (x714 > 500)) = true then
        some true
      else
        Option.bind (idx y685.fBody x715) fun (y738 : GStmt) =>
        Option.bind (ref10_much (mGStmt y738 + 1) y738 25) fun (y740 : Bool) =>
        some y740 : Option (Bool)) fun x742 =>
      if x742 = true then
        some (.stop true)
      else
        Option.bind (idx y685.fBody x715) fun (y750 : GStmt) =>
        Option.bind (ref08_Size (mGStmt y750 + 1) y750) fun (y752 : Int) =>
        ref10_Heavy_L3 y685 n (w_i64 (x714 + y752)) (w_i64 (x715 + 1))
    else
      some (.next x714)
def ref10_Heavy_L2 (y514 : GClass) : Nat → Int → Int → Option (Ctl (Bool) (Int))
  | 0, _, _ => none
  | n + 1, x601, x602 =>
    if (decide (x602 < (y514.fMethods.length : Int))) = true then
      Option.bind (idx y514.fMethods x602) fun (y685 : GMethod) =>
      Option.bind (if (decide ((y685.fParams.length : Int) > 40)) = true then
        some true
      else
        if (decide ((y685.fLocals.length : Int) > 40)) = true then
          some true
        else
          if (decide ((y685.fBody.length : Int) > 500)) = true then
            some true
          else
            Option.bind (ref10_uniques y685) fun (y690 : Int) =>
            some (decide (y690 > 8)) : Option (Bool)) fun x692 =>
      if x692 = true then
        some (.stop true)
      else
        Option.bind (ref10_Heavy_L3 y685 ((((y685.fBody.length : Int) : Int) - (0)).toNat + 1) x601 0) fun lr757 =>
        Ctl.elim lr757 (fun v => some (.stop v)) fun x756 =>
        ref10_Heavy_L2 y514 n x756 (w_i64 (x602 + 1))
    else
      some (.next x601)
def ref10_Heavy_L1 (a0 : List GClass) : Nat → Int → Int → Option (Ctl (Bool) (Int))
  | 0, _, _ => none
  | n + 1, x254, x255 =>
    if (decide (x255 < (a0.length : Int))) = true then
      Option.bind (idx a0 x255) fun (y514 : GClass) =>
      Option.bind (if (decide ((a0.length : Int) > 30)) = true then
        some true
      else
        if (decide ((y514.fParams.length : Int) > 20)) = true then
          some true
        else
          if (decide ((y514.fAbove.length : Int) > 20)) = true then
            some true
          else
            if (decide ((y514.fFields.length : Int) > 40)) = true then
              some true
            else
              some (decide ((y514.fMethods.length : Int) > 40)) : Option (Bool)) fun x520 =>
      if x520 = true then
        some (.stop true)
      else
        Option.bind (ref10_Heavy_L2 y514 ((((y514.fMethods.length : Int) : Int) - (0)).toNat + 1) x254 0) fun lr762 =>
        Ctl.elim lr762 (fun v => some (.stop v)) fun x761 =>
        ref10_Heavy_L1 a0 n x761 (w_i64 (x255 + 1))
    else
      some (.next x254)
def ref10_Heavy (a0 : List GClass) : Option Bool :=
  Option.bind (ref10_Heavy_L1 a0 ((((a0.length : Int) : Int) - (0)).toNat + 1) 0 0) fun lr767 =>
  Ctl.elim lr767 (fun v => some v) fun x766 =>
  some (decide (x766 > 500))
def ref02_Letter (a0 : Int) : Option Bool :=
  if (decide (a0 ≥ 97)) = true then
    if (decide (a0 ≤ 122)) = true then
      some true
    else
      if (decide (a0 ≥ 65)) = true then
        some (decide (a0 ≤ 90))
      else
        some false
  else
    if (decide (a0 ≥ 65)) = true then
      some (decide (a0 ≤ 90))
    else
      some false
def ref02_Words  : Option (List (List UInt8)) :=
  some [[99, 108, 97, 115, 115], [101, 120, 116, 101, 110, 100, 115], [114, 101, 112], [112, 101, 101, 114], [119, 111, 114, 108, 100], [97, 110, 121], [117, 110, 105, 113, 117, 101], [112, 117, 114, 101], [118, 111, 105, 100], [105, 110, 116], [105, 102], [101, 108, 115, 101], [119, 104, 105, 108, 101], [114, 101, 116, 117, 114, 110], [110, 101, 119], [109, 111, 118, 101], [100, 101, 108, 101, 116, 101], [116, 104, 105, 115], [110, 117, 108, 108], [105, 110, 112, 117, 116], [110, 105, 108], [115, 97, 109, 101], [99, 97, 115, 116]]
def ref02_Find_L1 (a0 : List UInt8) (y3 : (List (List UInt8))) : Nat → Int → Option (Ctl (Int) (Unit))
  | 0, _ => none
  | n + 1, x11 =>
    if (decide (x11 < (y3.length : Int))) = true then
      Option.bind (idx y3 x11) fun (y22 : List UInt8) =>
      if (y22 == a0) = true then
        some (.stop (w_i64 (x11 + 1)))
      else
        ref02_Find_L1 a0 y3 n (w_i64 (x11 + 1))
    else
      some (.next ())
def ref02_Find (a0 : List UInt8) : Option Int :=
  Option.bind ref02_Words fun (y3 : (List (List UInt8))) =>
  Option.bind (ref02_Find_L1 a0 y3 ((((y3.length : Int) : Int) - (0)).toNat + 1) 0) fun lr26 =>
  Ctl.elim lr26 (fun v => some v) fun _ =>
  some 0
def ref02_Digit (a0 : Int) : Option Bool :=
  if (decide (a0 ≥ 48)) = true then
    some (decide (a0 ≤ 57))
  else
    some false
def ref02_Name_L1 (a0 : List UInt8) : Nat → Int → Option (Ctl (Bool) (Unit))
  | 0, _ => none
  | n + 1, x32 =>
    if (decide (x32 < (a0.length : Int))) = true then
      Option.bind (Option.bind (idx a0 x32) fun (y57 : UInt8) =>
      Option.bind (ref02_Letter (y57.toNat : Int)) fun (y59 : Bool) =>
      if (!y59) = true then
        Option.bind (idx a0 x32) fun (y62 : UInt8) =>
        Option.bind (ref02_Digit (y62.toNat : Int)) fun (y64 : Bool) =>
        some (!y64)
      else
        some false : Option (Bool)) fun x66 =>
      if x66 = true then
        some (.stop false)
      else
        ref02_Name_L1 a0 n (w_i64 (x32 + 1))
    else
      some (.next ())
def ref02_Name (a0 : List UInt8) : Option Bool :=
  Option.bind (if (decide ((a0.length : Int) < 1)) = true then
    some true
  else
    if (decide ((a0.length : Int) > 20)) = true then
      some true
    else
      Option.bind (idx a0 0) fun (y3 : UInt8) =>
      Option.bind (ref02_Letter (y3.toNat : Int)) fun (y5 : Bool) =>
      if (!y5) = true then
        some true
      else
        Option.bind (ref02_Find a0) fun (y8 : Int) =>
        some (decide (y8 > 0)) : Option (Bool)) fun x10 =>
  if x10 = true then
    some false
  else
    Option.bind (ref02_Name_L1 a0 ((((a0.length : Int) : Int) - (0)).toNat + 1) 0) fun lr71 =>
    Ctl.elim lr71 (fun v => some v) fun _ =>
    some true
def ref04_Right (a0 : GOwner) (a1 : Int) : Option Bool :=
  if (a0.fKind == 3) = true then
    if (decide (a0.fN ≥ 1)) = true then
      some (decide (a0.fN ≤ a1))
    else
      some false
  else
    if (a0.fKind == 7) = true then
      some (decide (a0.fN ≥ 0))
    else
      if (a0.fN == 0) = true then
        if (a0.fKind == 1) = true then
          some true
        else
          if (a0.fKind == 2) = true then
            some true
          else
            if (a0.fKind == 4) = true then
              some true
            else
              if (a0.fKind == 5) = true then
                some true
              else
                some (a0.fKind == 6)
      else
        some false
def ref08_Blank (a0 : GStmt) : Option GStmt :=
  Option.bind (Option.bind (if (a0.fKind == 1) = true then
    some true
  else
    if (a0.fKind == 2) = true then
      some true
    else
      if (a0.fKind == 4) = true then
        some true
      else
        if (a0.fKind == 5) = true then
          some true
        else
          if (a0.fKind == 6) = true then
            some true
          else
            some (a0.fKind == 7) : Option (Bool)) fun x6 =>
  if x6 = true then
    some ({ a0 with fX := [] } : GStmt)
  else
    some a0 : Option (GStmt)) fun x10 =>
  Option.bind (Option.bind (if (a0.fKind == 2) = true then
    some true
  else
    if (a0.fKind == 3) = true then
      some true
    else
      if (a0.fKind == 4) = true then
        some true
      else
        if (a0.fKind == 7) = true then
          some true
        else
          some (a0.fKind == 8) : Option (Bool)) fun x17 =>
  if x17 = true then
    some ({ x10 with fY := [] } : GStmt)
  else
    some x10 : Option (GStmt)) fun x21 =>
  Option.bind (Option.bind (if (a0.fKind == 2) = true then
    some true
  else
    if (a0.fKind == 3) = true then
      some true
    else
      some (a0.fKind == 4) : Option (Bool)) fun x26 =>
  if x26 = true then
    some ({ x21 with fName := [] } : GStmt)
  else
    some x21 : Option (GStmt)) fun x30 =>
  Option.bind (Option.bind (if (a0.fKind == 5) = true then
    some true
  else
    some (a0.fKind == 6) : Option (Bool)) fun x34 =>
  if x34 = true then
    some ({ x30 with fType := ({ fKind := 0, fClass := [], fN := 0, fOwn := (⟨zGOwner, zGOwner, zGOwner, zGOwner⟩ : A4 GOwner) } : GType) } : GStmt)
  else
    some x30 : Option (GStmt)) fun x38 =>
  Option.bind (Option.bind (if (a0.fKind == 1) = true then
    some true
  else
    if (a0.fKind == 3) = true then
      some true
    else
      if (a0.fKind == 6) = true then
        some true
      else
        if (a0.fKind == 9) = true then
          some true
        else
          if (a0.fKind == 10) = true then
            some true
          else
            some (a0.fKind == 11) : Option (Bool)) fun x46 =>
  if x46 = true then
    some ({ x38 with fE := ({ fKind := 0, fNum := 0, fName := [], fKids := [] } : GExpr) } : GStmt)
  else
    some x38 : Option (GStmt)) fun x50 =>
  Option.bind (if (a0.fKind == 4) = true then
    some ({ x50 with fArgs := [] } : GStmt)
  else
    some x50 : Option (GStmt)) fun x54 =>
  Option.bind (Option.bind (if (a0.fKind == 9) = true then
    some true
  else
    some (a0.fKind == 10) : Option (Bool)) fun x58 =>
  if x58 = true then
    some ({ x54 with fBody := [] } : GStmt)
  else
    some x54 : Option (GStmt)) fun x62 =>
  if (a0.fKind == 9) = true then
    some ({ x62 with fElse := [] } : GStmt)
  else
    some x62
def ref06_Same_L1 (a0 : GExpr) (a1 : GExpr) (ref06_Same_rec : GExpr → GExpr → Option Bool) : Nat → Int → Option (Ctl (Bool) (Unit))
  | 0, _ => none
  | n + 1, x22 =>
    if (decide (x22 < (a0.fKids.length : Int))) = true then
      Option.bind (idx a0.fKids x22) fun (y45 : GExpr) =>
      Option.bind (idx a1.fKids x22) fun (y47 : GExpr) =>
      Option.bind (ref06_Same_rec y45 y47) fun (y49 : Bool) =>
      if (!y49) = true then
        some (.stop false)
      else
        ref06_Same_L1 a0 a1 ref06_Same_rec n (w_i64 (x22 + 1))
    else
      some (.next ())
def ref06_Same : Nat → GExpr → GExpr → Option Bool
  | 0, _, _ => none
  | n + 1, a0, a1 =>
    Option.bind (if (a0.fKind != a1.fKind) = true then
      some true
    else
      if (a0.fNum != a1.fNum) = true then
        some true
      else
        if (!(a0.fName == a1.fName)) = true then
          some true
        else
          some ((a0.fKids.length : Int) != (a1.fKids.length : Int)) : Option (Bool)) fun x4 =>
    if x4 = true then
      some false
    else
      Option.bind (ref06_Same_L1 a0 a1 (ref06_Same n) ((((a0.fKids.length : Int) : Int) - (0)).toNat + 1) 0) fun lr53 =>
      Ctl.elim lr53 (fun v => some v) fun _ =>
      some true
def ref08_only (a0 : GStmt) : Option Bool :=
  Option.bind (ref08_Blank a0) fun (y3 : GStmt) =>
  if (decide (a0.fKind ≥ 1)) = true then
    if (decide (a0.fKind ≤ 11)) = true then
      if (y3.fX == []) = true then
        if (y3.fY == []) = true then
          if (y3.fName == []) = true then
            if (bGType y3.fType ({ fKind := 0, fClass := [], fN := 0, fOwn := (⟨zGOwner, zGOwner, zGOwner, zGOwner⟩ : A4 GOwner) } : GType)) = true then
              Option.bind (ref06_Same (mGExpr y3.fE + mGExpr ({ fKind := 0, fNum := 0, fName := [], fKids := [] } : GExpr) + 1) y3.fE ({ fKind := 0, fNum := 0, fName := [], fKids := [] } : GExpr)) fun (y11 : Bool) =>
              if y11 = true then
                some ((w_i64 ((w_i64 ((y3.fArgs.length : Int) + (y3.fBody.length : Int))) + (y3.fElse.length : Int))) == 0)
              else
                some false
            else
              some false
          else
            some false
        else
          some false
      else
        some false
    else
      some false
  else
    some false
def ref05_Right_L1 (a0 : GType) (a1 : Int) : Nat → Int → Option (Ctl (Bool) (Unit))
  | 0, _ => none
  | n + 1, x32 =>
    if (decide (x32 < 4)) = true then
      Option.bind (idx (a0.fOwn).l x32) fun (y58 : GOwner) =>
      Option.bind (if (decide (x32 > a0.fN)) = true then
        if (!(bGOwner y58 ({ fKind := 0, fN := 0 } : GOwner))) = true then
          some true
        else
          if (decide (x32 ≤ a0.fN)) = true then
            Option.bind (ref04_Right y58 a1) fun (y63 : Bool) =>
            if (!y63) = true then
              some true
            else
              if (decide (x32 > 0)) = true then
                some (y58.fKind == 6)
              else
                some false
          else
            some false
      else
        if (decide (x32 ≤ a0.fN)) = true then
          Option.bind (ref04_Right y58 a1) fun (y68 : Bool) =>
          if (!y68) = true then
            some true
          else
            if (decide (x32 > 0)) = true then
              some (y58.fKind == 6)
            else
              some false
        else
          some false : Option (Bool)) fun x72 =>
      if x72 = true then
        some (.stop false)
      else
        ref05_Right_L1 a0 a1 n (w_i64 (x32 + 1))
    else
      some (.next ())
def ref05_Right (a0 : GType) (a1 : Int) : Option Bool :=
  Option.bind (if (a0.fKind == 0) = true then
    some true
  else
    some (a0.fKind == 1) : Option (Bool)) fun x2 =>
  if x2 = true then
    some (bGType a0 ({ fKind := a0.fKind, fClass := [], fN := 0, fOwn := (⟨zGOwner, zGOwner, zGOwner, zGOwner⟩ : A4 GOwner) } : GType))
  else
    Option.bind (if (a0.fKind != 2) = true then
      some true
    else
      Option.bind (ref02_Name a0.fClass) fun (y7 : Bool) =>
      if (!y7) = true then
        some true
      else
        if (decide (a0.fN < 0)) = true then
          some true
        else
          some (decide (a0.fN > 3)) : Option (Bool)) fun x11 =>
    if x11 = true then
      some false
    else
      Option.bind (ref05_Right_L1 a0 a1 (((4 : Int) - (0)).toNat + 1) 0) fun lr77 =>
      Ctl.elim lr77 (fun v => some v) fun _ =>
      some true
def ref08_names (a0 : GStmt) (a1 : Int) : Option Bool :=
  Option.bind (Option.bind (ref02_Name a0.fX) fun (y3 : Bool) =>
  if y3 = true then
    some true
  else
    if (a0.fKind == 4) = true then
      if (a0.fX == []) = true then
        some true
      else
        if (a0.fKind == 3) = true then
          some true
        else
          if (a0.fKind == 8) = true then
            some true
          else
            some (decide (a0.fKind ≥ 9))
    else
      if (a0.fKind == 3) = true then
        some true
      else
        if (a0.fKind == 8) = true then
          some true
        else
          some (decide (a0.fKind ≥ 9)) : Option (Bool)) fun x12 =>
  Option.bind (Option.bind (ref02_Name a0.fY) fun (y17 : Bool) =>
  if y17 = true then
    some true
  else
    if (a0.fKind == 2) = true then
      if (a0.fY == [116, 104, 105, 115]) = true then
        some true
      else
        if (a0.fKind == 1) = true then
          some true
        else
          if (a0.fKind == 5) = true then
            some true
          else
            if (a0.fKind == 6) = true then
              some true
            else
              some (decide (a0.fKind ≥ 9))
    else
      if (a0.fKind == 3) = true then
        if (a0.fY == [116, 104, 105, 115]) = true then
          some true
        else
          if (a0.fKind == 1) = true then
            some true
          else
            if (a0.fKind == 5) = true then
              some true
            else
              if (a0.fKind == 6) = true then
                some true
              else
                some (decide (a0.fKind ≥ 9))
      else
        if (a0.fKind == 4) = true then
          if (a0.fY == [116, 104, 105, 115]) = true then
            some true
          else
            if (a0.fKind == 1) = true then
              some true
            else
              if (a0.fKind == 5) = true then
                some true
              else
                if (a0.fKind == 6) = true then
                  some true
                else
                  some (decide (a0.fKind ≥ 9))
        else
          if (a0.fKind == 1) = true then
            some true
          else
            if (a0.fKind == 5) = true then
              some true
            else
              if (a0.fKind == 6) = true then
                some true
              else
                some (decide (a0.fKind ≥ 9)) : Option (Bool)) fun x38 =>
  Option.bind (Option.bind (ref02_Name a0.fName) fun (y43 : Bool) =>
  if y43 = true then
    some true
  else
    if (a0.fKind != 2) = true then
      if (a0.fKind != 3) = true then
        some (a0.fKind != 4)
      else
        some false
    else
      some false : Option (Bool)) fun x48 =>
  Option.bind (if (a0.fType.fKind == 2) = true then
    Option.bind (ref05_Right a0.fType a1) fun (y52 : Bool) =>
    if y52 = true then
      some true
    else
      if (a0.fKind != 5) = true then
        some (a0.fKind != 6)
      else
        some false
  else
    if (a0.fKind != 5) = true then
      some (a0.fKind != 6)
    else
      some false : Option (Bool)) fun x57 =>
  if x12 = true then
    if x38 = true then
      if x48 = true then
        some x57
      else
        some false
    else
      some false
  else
    some false
def ref06_kids (a0 : Int) : Option Int :=
  Option.bind (if (decide (a0 ≥ 6)) = true then
    if (decide (a0 ≤ 11)) = true then
      some true
    else
      some (a0 == 14)
  else
    some (a0 == 14) : Option (Bool)) fun x3 =>
  if x3 = true then
    some 2
  else
    Option.bind (if (a0 == 12) = true then
      some true
    else
      some (a0 == 13) : Option (Bool)) fun x8 =>
    if x8 = true then
      some 1
    else
      some 0
def ref06_form_L1 (a0 : GExpr) (ref06_form_rec : GExpr → Option Bool) : Nat → Int → Option (Ctl (Bool) (Unit))
  | 0, _ => none
  | n + 1, x62 =>
    if (decide (x62 < (a0.fKids.length : Int))) = true then
      Option.bind (idx a0.fKids x62) fun (y93 : GExpr) =>
      Option.bind (Option.bind (idx a0.fKids x62) fun (y99 : GExpr) =>
      Option.bind (ref06_form_rec y99) fun (y101 : Bool) =>
      if (!y101) = true then
        some true
      else
        if (a0.fKind == 13) = true then
          if (y93.fKind != 2) = true then
            if (y93.fKind != 3) = true then
              some true
            else
              if (a0.fKind == 14) = true then
                some false
              else
                some false
          else
            if (a0.fKind == 14) = true then
              some false
            else
              some false
        else
          if (a0.fKind == 14) = true then
            if (y93.fKind != 2) = true then
              if (y93.fKind != 3) = true then
                some (y93.fKind != 4)
              else
                some false
            else
              some false
          else
            some false : Option (Bool)) fun x112 =>
      if x112 = true then
        some (.stop false)
      else
        ref06_form_L1 a0 ref06_form_rec n (w_i64 (x62 + 1))
    else
      some (.next ())
def ref06_form : Nat → GExpr → Option Bool
  | 0, _ => none
  | n + 1, a0 =>
    Option.bind (if (decide (a0.fKind < 1)) = true then
      some true
    else
      if (decide (a0.fKind > 14)) = true then
        some true
      else
        Option.bind (ref06_kids a0.fKind) fun (y3 : Int) =>
        if ((a0.fKids.length : Int) != y3) = true then
          some true
        else
          if (a0.fKind != 1) = true then
            if (a0.fNum != 0) = true then
              some true
            else
              if (a0.fKind != 2) = true then
                if (!(a0.fName == [])) = true then
                  some true
                else
                  if (decide (a0.fNum < 0)) = true then
                    some true
                  else
                    if (decide (a0.fNum > 999999999)) = true then
                      some true
                    else
                      if (a0.fKind == 2) = true then
                        Option.bind (ref02_Name a0.fName) fun (y13 : Bool) =>
                        some (!y13)
                      else
                        some false
              else
                if (decide (a0.fNum < 0)) = true then
                  some true
                else
                  if (decide (a0.fNum > 999999999)) = true then
                    some true
                  else
                    if (a0.fKind == 2) = true then
                      Option.bind (ref02_Name a0.fName) fun (y18 : Bool) =>
                      some (!y18)
                    else
                      some false
          else
            if (a0.fKind != 2) = true then
              if (!(a0.fName == [])) = true then
                some true
              else
                if (decide (a0.fNum < 0)) = true then
                  some true
                else
                  if (decide (a0.fNum > 999999999)) = true then
                    some true
                  else
                    if (a0.fKind == 2) = true then
                      Option.bind (ref02_Name a0.fName) fun (y25 : Bool) =>
                      some (!y25)
                    else
                      some false
            else
              if (decide (a0.fNum < 0)) = true then
                some true
              else
                if (decide (a0.fNum > 999999999)) = true then
                  some true
                else
                  if (a0.fKind == 2) = true then
                    Option.bind (ref02_Name a0.fName) fun (y30 : Bool) =>
                    some (!y30)
                  else
                    some false : Option (Bool)) fun x32 =>
    if x32 = true then
      some false
    else
      Option.bind (ref06_form_L1 a0 (ref06_form n) ((((a0.fKids.length : Int) : Int) - (0)).toNat + 1) 0) fun lr117 =>
      Ctl.elim lr117 (fun v => some v) fun _ =>
      some true
def ref06_Deep_L1 (a0 : GExpr) (ref06_Deep_rec : GExpr → Option Int) : Nat → Int → Int → Option (Int)
  | 0, _, _ => none
  | n + 1, x10, x11 =>
    if (decide (x11 < (a0.fKids.length : Int))) = true then
      Option.bind (idx a0.fKids x11) fun (y28 : GExpr) =>
      Option.bind (ref06_Deep_rec y28) fun (y30 : Int) =>
      ref06_Deep_L1 a0 ref06_Deep_rec n (if y30 > x10 then y30 else x10) (w_i64 (x11 + 1))
    else
      some x10
def ref06_Deep : Nat → GExpr → Option Int
  | 0, _ => none
  | n + 1, a0 =>
    Option.bind (ref06_Deep_L1 a0 (ref06_Deep n) ((((a0.fKids.length : Int) : Int) - (0)).toNat + 1) 0 0) fun x34 =>
    some (w_i64 (x34 + 1))
def ref06_Right (a0 : GExpr) : Option Bool :=
  Option.bind (ref06_form (mGExpr a0 + 1) a0) fun (y1 : Bool) =>
  if y1 = true then
    Option.bind (ref06_Deep (mGExpr a0 + 1) a0) fun (y4 : Int) =>
    some (decide (y4 ≤ 20))
  else
    some false
def ref08_tells_L1 (a0 : GStmt) : Nat → Int → Option (Ctl (Bool) (Unit))
  | 0, _ => none
  | n + 1, x38 =>
    if (decide (x38 < (a0.fArgs.length : Int))) = true then
      Option.bind (idx a0.fArgs x38) fun (y55 : GExpr) =>
      Option.bind (ref06_Right y55) fun (y57 : Bool) =>
      if (!y57) = true then
        some (.stop false)
      else
        ref08_tells_L1 a0 n (w_i64 (x38 + 1))
    else
      some (.next ())
def ref08_tells (a0 : GStmt) : Option Bool :=
  Option.bind (if (a0.fKind == 2) = true then
    some true
  else
    if (a0.fKind == 4) = true then
      some true
    else
      if (a0.fKind == 5) = true then
        some true
      else
        if (a0.fKind == 7) = true then
          some true
        else
          if (a0.fKind == 8) = true then
            some true
          else
            if (a0.fKind == 11) = true then
              Option.bind (ref06_Same (mGExpr a0.fE + mGExpr ({ fKind := 0, fNum := 0, fName := [], fKids := [] } : GExpr) + 1) a0.fE ({ fKind := 0, fNum := 0, fName := [], fKids := [] } : GExpr)) fun (y7 : Bool) =>
              some y7
            else
              some false : Option (Bool)) fun x9 =>
  Option.bind (if (!x9) = true then
    Option.bind (ref06_Right a0.fE) fun (y13 : Bool) =>
    if (!y13) = true then
      some true
    else
      if (a0.fKind == 6) = true then
        if (a0.fE.fKind != 2) = true then
          if (a0.fE.fKind != 3) = true then
            if (a0.fE.fKind != 4) = true then
              some true
            else
              some (decide ((a0.fArgs.length : Int) > 5))
          else
            some (decide ((a0.fArgs.length : Int) > 5))
        else
          some (decide ((a0.fArgs.length : Int) > 5))
      else
        some (decide ((a0.fArgs.length : Int) > 5))
  else
    if (a0.fKind == 6) = true then
      if (a0.fE.fKind != 2) = true then
        if (a0.fE.fKind != 3) = true then
          if (a0.fE.fKind != 4) = true then
            some true
          else
            some (decide ((a0.fArgs.length : Int) > 5))
        else
          some (decide ((a0.fArgs.length : Int) > 5))
      else
        some (decide ((a0.fArgs.length : Int) > 5))
    else
      some (decide ((a0.fArgs.length : Int) > 5)) : Option (Bool)) fun x24 =>
  if x24 = true then
    some false
  else
    Option.bind (ref08_tells_L1 a0 ((((a0.fArgs.length : Int) : Int) - (0)).toNat + 1) 0) fun lr61 =>
    Ctl.elim lr61 (fun v => some v) fun _ =>
    some true
def ref08_form_L1 (a0 : GStmt) (a1 : Int) (ref08_form_rec : GStmt → Int → Option Bool) : Nat → Int → Option (Ctl (Bool) (Unit))
  | 0, _ => none
  | n + 1, x25 =>
    if (decide (x25 < (a0.fBody.length : Int))) = true then
      Option.bind (idx a0.fBody x25) fun (y42 : GStmt) =>
      Option.bind (ref08_form_rec y42 a1) fun (y44 : Bool) =>
      if (!y44) = true then
        some (.stop false)
      else
        ref08_form_L1 a0 a1 ref08_form_rec n (w_i64 (x25 + 1))
    else
      some (.next ())
def ref08_form_L2 (a0 : GStmt) (a1 : Int) (ref08_form_rec : GStmt → Int → Option Bool) : Nat → Int → Option (Ctl (Bool) (Unit))
  | 0, _ => none
  | n + 1, x60 =>
    if (decide (x60 < (a0.fElse.length : Int))) = true then
      Option.bind (idx a0.fElse x60) fun (y77 : GStmt) =>
      Option.bind (ref08_form_rec y77 a1) fun (y79 : Bool) =>
      if (!y79) = true then
        some (.stop false)
      else
        ref08_form_L2 a0 a1 ref08_form_rec n (w_i64 (x60 + 1))
    else
      some (.next ())
def ref08_form : Nat → GStmt → Int → Option Bool
  | 0, _, _ => none
  | n + 1, a0, a1 =>
    Option.bind (Option.bind (ref08_only a0) fun (y3 : Bool) =>
    if (!y3) = true then
      some true
    else
      Option.bind (ref08_names a0 a1) fun (y6 : Bool) =>
      if (!y6) = true then
        some true
      else
        Option.bind (ref08_tells a0) fun (y9 : Bool) =>
        some (!y9) : Option (Bool)) fun x11 =>
    if x11 = true then
      some false
    else
      Option.bind (ref08_form_L1 a0 a1 (ref08_form n) ((((a0.fBody.length : Int) : Int) - (0)).toNat + 1) 0) fun lr48 =>
      Ctl.elim lr48 (fun v => some v) fun _ =>
      Option.bind (ref08_form_L2 a0 a1 (ref08_form n) ((((a0.fElse.length : Int) : Int) - (0)).toNat + 1) 0) fun lr83 =>
      Ctl.elim lr83 (fun v => some v) fun _ =>
      some true
def ref08_Deep_L1 (a0 : GStmt) (ref08_Deep_rec : GStmt → Option Int) : Nat → Int → Int → Option (Int)
  | 0, _, _ => none
  | n + 1, x10, x11 =>
    if (decide (x11 < (a0.fBody.length : Int))) = true then
      Option.bind (idx a0.fBody x11) fun (y28 : GStmt) =>
      Option.bind (ref08_Deep_rec y28) fun (y30 : Int) =>
      ref08_Deep_L1 a0 ref08_Deep_rec n (if y30 > x10 then y30 else x10) (w_i64 (x11 + 1))
    else
      some x10
def ref08_Deep_L2 (a0 : GStmt) (ref08_Deep_rec : GStmt → Option Int) : Nat → Int → Int → Option (Int)
  | 0, _, _ => none
  | n + 1, x45, x46 =>
    if (decide (x46 < (a0.fElse.length : Int))) = true then
      Option.bind (idx a0.fElse x46) fun (y63 : GStmt) =>
      Option.bind (ref08_Deep_rec y63) fun (y65 : Int) =>
      ref08_Deep_L2 a0 ref08_Deep_rec n (if y65 > x45 then y65 else x45) (w_i64 (x46 + 1))
    else
      some x45
def ref08_Deep : Nat → GStmt → Option Int
  | 0, _ => none
  | n + 1, a0 =>
    Option.bind (ref08_Deep_L1 a0 (ref08_Deep n) ((((a0.fBody.length : Int) : Int) - (0)).toNat + 1) 0 0) fun x34 =>
    Option.bind (ref08_Deep_L2 a0 (ref08_Deep n) ((((a0.fElse.length : Int) : Int) - (0)).toNat + 1) x34 0) fun x69 =>
    some (w_i64 (x69 + 1))
def ref08_Right (a0 : GStmt) (a1 : Int) : Option Bool :=
  Option.bind (ref08_form (mGStmt a0 + 1) a0 a1) fun (y1 : Bool) =>
  if y1 = true then
    Option.bind (ref08_Deep (mGStmt a0 + 1) a0) fun (y4 : Int) =>
    some (decide (y4 ≤ 20))
  else
    some false
def ref10_written (a0 : GType) (a1 : Int) : Option Bool :=
  Option.bind (ref05_Right a0 a1) fun (y1 : Bool) =>
  if y1 = true then
    if (a0.fOwn.a1.fKind != 7) = true then
      if (a0.fOwn.a2.fKind != 7) = true then
        if (a0.fOwn.a3.fKind != 7) = true then
          if (a0.fOwn.a0.fKind != 7) = true then
            some true
          else
            some (a0.fOwn.a0.fN == 0)
        else
          some false
      else
        some false
    else
      some false
  else
    some false
def ref10_vars_L1 (a0 : List GVar) (a2 : Int) : Nat → Int → Option (Ctl (Bool) (Unit))
  | 0, _ => none
  | n + 1, x22 =>
    if (decide (x22 < (a0.length : Int))) = true then
      Option.bind (Option.bind (idx a0 x22) fun (y50 : GVar) =>
      Option.bind (ref02_Name y50.fName) fun (y52 : Bool) =>
      if (!y52) = true then
        some true
      else
        Option.bind (idx a0 x22) fun (y55 : GVar) =>
        if (y55.fType.fKind == 0) = true then
          some true
        else
          Option.bind (idx a0 x22) fun (y58 : GVar) =>
          Option.bind (ref10_written y58.fType a2) fun (y60 : Bool) =>
          some (!y60) : Option (Bool)) fun x62 =>
      if x62 = true then
        some (.stop false)
      else
        ref10_vars_L1 a0 a2 n (w_i64 (x22 + 1))
    else
      some (.next ())
def ref10_vars (a0 : List GVar) (a1 : Int) (a2 : Int) : Option Bool :=
  Option.bind (ref10_vars_L1 a0 a2 ((((a0.length : Int) : Int) - (0)).toNat + 1) 0) fun lr67 =>
  Ctl.elim lr67 (fun v => some v) fun _ =>
  some (decide ((a0.length : Int) ≤ a1))
def ref10_open_L1 (a0 : List GStmt) (a1 : Int) (ref10_open_rec : (List GStmt) → Int → Option Bool) : Nat → Int → Option (Ctl (Bool) (Unit))
  | 0, _ => none
  | n + 1, x34 =>
    if (decide (x34 < (a0.length : Int))) = true then
      Option.bind (Option.bind (idx a0 x34) fun (y72 : GStmt) =>
      if (y72.fType.fKind == 2) = true then
        Option.bind (idx a0 x34) fun (y75 : GStmt) =>
        Option.bind (ref10_written y75.fType a1) fun (y77 : Bool) =>
        if (!y77) = true then
          some true
        else
          Option.bind (idx a0 x34) fun (y80 : GStmt) =>
          Option.bind (ref10_open_rec y80.fBody a1) fun (y82 : Bool) =>
          if (!y82) = true then
            some true
          else
            Option.bind (idx a0 x34) fun (y85 : GStmt) =>
            Option.bind (ref10_open_rec y85.fElse a1) fun (y87 : Bool) =>
            some (!y87)
      else
        Option.bind (idx a0 x34) fun (y89 : GStmt) =>
        Option.bind (ref10_open_rec y89.fBody a1) fun (y91 : Bool) =>
        if (!y91) = true then
          some true
        else
          Option.bind (idx a0 x34) fun (y94 : GStmt) =>
          Option.bind (ref10_open_rec y94.fElse a1) fun (y96 : Bool) =>
          some (!y96) : Option (Bool)) fun x98 =>
      if x98 = true then
        some (.stop false)
      else
        ref10_open_L1 a0 a1 ref10_open_rec n (w_i64 (x34 + 1))
    else
      some (.next ())
def ref10_open : Nat → (List GStmt) → Int → Option Bool
  | 0, _, _ => none
  | n + 1, a0, a1 =>
    Option.bind (ref10_open_L1 a0 a1 (ref10_open n) ((((a0.length : Int) : Int) - (0)).toNat + 1) 0) fun lr103 =>
    Ctl.elim lr103 (fun v => some v) fun _ =>
    some true
def ref10_method_L1 (a0 : GMethod) (a1 : Int) : Nat → Int → Option (Ctl (Bool) (Unit))
  | 0, _ => none
  | n + 1, x11 =>
    if (decide (x11 < (a0.fBody.length : Int))) = true then
      Option.bind (idx a0.fBody x11) fun (y28 : GStmt) =>
      Option.bind (ref08_Right y28 a1) fun (y30 : Bool) =>
      if (!y30) = true then
        some (.stop false)
      else
        ref10_method_L1 a0 a1 n (w_i64 (x11 + 1))
    else
      some (.next ())
def ref10_method (a0 : GMethod) (a1 : Int) : Option Bool :=
  Option.bind (ref10_method_L1 a0 a1 ((((a0.fBody.length : Int) : Int) - (0)).toNat + 1) 0) fun lr34 =>
  Ctl.elim lr34 (fun v => some v) fun _ =>
  Option.bind (ref02_Name a0.fName) fun (y36 : Bool) =>
  if y36 = true then
    Option.bind (ref10_written a0.fRet a1) fun (y39 : Bool) =>
    if y39 = true then
      Option.bind (ref10_vars a0.fParams 5 a1) fun (y42 : Bool) =>
      if y42 = true then
        Option.bind (ref10_vars a0.fLocals 12 a1) fun (y45 : Bool) =>
        if y45 = true then
          Option.bind (ref10_open (mLGStmt a0.fBody + 1) a0.fBody a1) fun (y48 : Bool) =>
          some y48
        else
          some false
      else
        some false
    else
      some false
  else
    some false
def ref10_class_L1 (a0 : GClass) : Nat → Int → Option (Ctl (Bool) (Unit))
  | 0, _ => none
  | n + 1, x11 =>
    if (decide (x11 < (a0.fParams.length : Int))) = true then
      Option.bind (idx a0.fParams x11) fun (y28 : List UInt8) =>
      Option.bind (ref02_Name y28) fun (y30 : Bool) =>
      if (!y30) = true then
        some (.stop false)
      else
        ref10_class_L1 a0 n (w_i64 (x11 + 1))
    else
      some (.next ())
def ref10_class_L2 (a0 : GClass) : Nat → Int → Option (Ctl (Bool) (Unit))
  | 0, _ => none
  | n + 1, x56 =>
    if (decide (x56 < (a0.fAbove.length : Int))) = true then
      Option.bind (idx a0.fAbove x56) fun (y81 : GOwner) =>
      Option.bind (Option.bind (idx a0.fAbove x56) fun (y87 : GOwner) =>
      Option.bind (ref04_Right y87 (a0.fParams.length : Int)) fun (y89 : Bool) =>
      if (!y89) = true then
        some true
      else
        if (y81.fKind != 2) = true then
          if (y81.fKind != 3) = true then
            some (y81.fKind != 4)
          else
            some false
        else
          some false : Option (Bool)) fun x94 =>
      if x94 = true then
        some (.stop false)
      else
        ref10_class_L2 a0 n (w_i64 (x56 + 1))
    else
      some (.next ())
def ref10_class_L3 (a0 : GClass) : Nat → Int → Option (Ctl (Bool) (Unit))
  | 0, _ => none
  | n + 1, x111 =>
    if (decide (x111 < (a0.fMethods.length : Int))) = true then
      Option.bind (idx a0.fMethods x111) fun (y128 : GMethod) =>
      Option.bind (ref10_method y128 (a0.fParams.length : Int)) fun (y130 : Bool) =>
      if (!y130) = true then
        some (.stop false)
      else
        ref10_class_L3 a0 n (w_i64 (x111 + 1))
    else
      some (.next ())
def ref10_class (a0 : GClass) : Option Bool :=
  Option.bind (ref10_class_L1 a0 ((((a0.fParams.length : Int) : Int) - (0)).toNat + 1) 0) fun lr34 =>
  Ctl.elim lr34 (fun v => some v) fun _ =>
  Option.bind (ref10_class_L2 a0 ((((a0.fAbove.length : Int) : Int) - (0)).toNat + 1) 0) fun lr99 =>
  Ctl.elim lr99 (fun v => some v) fun _ =>
  Option.bind (ref10_class_L3 a0 ((((a0.fMethods.length : Int) : Int) - (0)).toNat + 1) 0) fun lr134 =>
  Ctl.elim lr134 (fun v => some v) fun _ =>
  Option.bind (ref02_Name a0.fName) fun (y136 : Bool) =>
  if y136 = true then
    if (decide ((a0.fParams.length : Int) ≤ 3)) = true then
      if (a0.fSuper == []) = true then
        if ((a0.fAbove.length : Int) == 0) = true then
          Option.bind (ref10_vars a0.fFields 12 (a0.fParams.length : Int)) fun (y142 : Bool) =>
          if y142 = true then
            some (decide ((a0.fMethods.length : Int) ≤ 12))
          else
            some false
        else
          Option.bind (ref02_Name a0.fSuper) fun (y145 : Bool) =>
          if y145 = true then
            if (decide ((a0.fAbove.length : Int) ≤ 3)) = true then
              Option.bind (ref10_vars a0.fFields 12 (a0.fParams.length : Int)) fun (y149 : Bool) =>
              if y149 = true then
                some (decide ((a0.fMethods.length : Int) ≤ 12))
              else
                some false
            else
              some false
          else
            some false
      else
        Option.bind (ref02_Name a0.fSuper) fun (y152 : Bool) =>
        if y152 = true then
          if (decide ((a0.fAbove.length : Int) ≤ 3)) = true then
            Option.bind (ref10_vars a0.fFields 12 (a0.fParams.length : Int)) fun (y156 : Bool) =>
            if y156 = true then
              some (decide ((a0.fMethods.length : Int) ≤ 12))
            else
              some false
          else
            some false
        else
          some false
    else
      some false
  else
    some false
def ref09_Stmts_L2 (a0 : GClass) (x64 : Int) : Nat → Int → Int → Option (Int)
  | 0, _, _ => none
  | n + 1, x147, x148 =>
    Option.bind (idx a0.fMethods x64) fun (y170 : GMethod) =>
    if (decide (x148 < (y170.fBody.length : Int))) = true then
      Option.bind (idx a0.fMethods x64) fun (y179 : GMethod) =>
      Option.bind (idx y179.fBody x148) fun (y181 : GStmt) =>
      Option.bind (ref08_Size (mGStmt y181 + 1) y181) fun (y183 : Int) =>
      ref09_Stmts_L2 a0 x64 n (w_i64 (x147 + y183)) (w_i64 (x148 + 1))
    else
      some x147
def ref09_Stmts_L1 (a0 : GClass) : Nat → Int → Int → Option (Int)
  | 0, _, _ => none
  | n + 1, x63, x64 =>
    if (decide (x64 < (a0.fMethods.length : Int))) = true then
      Option.bind (ref09_Stmts_L2 a0 x64 (Option.getD (Option.bind (idx a0.fMethods x64) fun (y189 : GMethod) => some ((((y189.fBody.length : Int) : Int) - (0)).toNat + 1)) 1) x63 0) fun x187 =>
      ref09_Stmts_L1 a0 n x187 (w_i64 (x64 + 1))
    else
      some x63
def ref09_Stmts (a0 : GClass) : Option Int :=
  Option.bind (ref09_Stmts_L1 a0 ((((a0.fMethods.length : Int) : Int) - (0)).toNat + 1) 0 0) fun x193 =>
  some x193
def ref10_Right_L1 (a0 : List GClass) : Nat → Int → Int → Option (Ctl (Bool) (Int))
  | 0, _, _ => none
  | n + 1, x19, x20 =>
    if (decide (x20 < (a0.length : Int))) = true then
      Option.bind (if (decide ((a0.length : Int) > 20)) = true then
        some true
      else
        Option.bind (idx a0 x20) fun (y43 : GClass) =>
        Option.bind (ref10_class y43) fun (y45 : Bool) =>
        some (!y45) : Option (Bool)) fun x47 =>
      if x47 = true then
        some (.stop false)
      else
        Option.bind (idx a0 x20) fun (y55 : GClass) =>
        Option.bind (ref09_Stmts y55) fun (y57 : Int) =>
        ref10_Right_L1 a0 n (w_i64 (x19 + y57)) (w_i64 (x20 + 1))
    else
      some (.next x19)
def ref10_Right (a0 : List GClass) : Option Bool :=
  Option.bind (ref10_Right_L1 a0 ((((a0.length : Int) : Int) - (0)).toNat + 1) 0 0) fun lr62 =>
  Ctl.elim lr62 (fun v => some v) fun x61 =>
  some (decide (x61 ≤ 400))
def ref13_fault (a0 : Int) (a1 : Int) : Option GFault :=
  some ({ fErr := a0, fAt := a1 } : GFault)
def ref13_Find_L1 (a0 : List GClass) (a1 : List UInt8) : Nat → Int → Option (Ctl (Int) (Unit))
  | 0, _ => none
  | n + 1, x7 =>
    if (decide (x7 < (a0.length : Int))) = true then
      Option.bind (idx a0 x7) fun (y18 : GClass) =>
      if (y18.fName == a1) = true then
        some (.stop x7)
      else
        ref13_Find_L1 a0 a1 n (w_i64 (x7 + 1))
    else
      some (.next ())
def ref13_Find (a0 : List GClass) (a1 : List UInt8) : Option Int :=
  Option.bind (ref13_Find_L1 a0 a1 ((((a0.length : Int) : Int) - (0)).toNat + 1) 0) fun lr22 =>
  Ctl.elim lr22 (fun v => some v) fun _ =>
  some (-1)
def ref13_Twice_L2 (a0 : List (List UInt8)) (x37 : Int) : Nat → Int → Option (Ctl (Int) (Unit))
  | 0, _ => none
  | n + 1, x86 =>
    if (decide (x86 < x37)) = true then
      Option.bind (idx a0 x86) fun (y103 : List UInt8) =>
      Option.bind (idx a0 x37) fun (y105 : List UInt8) =>
      if (y103 == y105) = true then
        some (.stop x37)
      else
        ref13_Twice_L2 a0 x37 n (w_i64 (x86 + 1))
    else
      some (.next ())
def ref13_Twice_L1 (a0 : List (List UInt8)) : Nat → Int → Option (Ctl (Int) (Unit))
  | 0, _ => none
  | n + 1, x37 =>
    if (decide (x37 < (a0.length : Int))) = true then
      Option.bind (ref13_Twice_L2 a0 x37 (((x37 : Int) - (0)).toNat + 1) 0) fun lr109 =>
      Ctl.elim lr109 (fun v => some (.stop v)) fun _ =>
      ref13_Twice_L1 a0 n (w_i64 (x37 + 1))
    else
      some (.next ())
def ref13_Twice (a0 : List (List UInt8)) : Option Int :=
  Option.bind (ref13_Twice_L1 a0 ((((a0.length : Int) : Int) - (0)).toNat + 1) 0) fun lr112 =>
  Ctl.elim lr112 (fun v => some v) fun _ =>
  some (-1)
def ref13_Arity (a0 : List GClass) (a1 : List UInt8) : Option Int :=
  Option.bind (ref13_Find a0 a1) fun (y3 : Int) =>
  if (decide (y3 < 0)) = true then
    some (-1)
  else
    Option.bind (idx a0 y3) fun (y6 : GClass) =>
    some (y6.fParams.length : Int)
def ref12_Vars (a0 : GMethod) : Option (List GVar) :=
  Option.bind (room ((([] : List GVar).length : Int) + (a0.fParams.length : Int)) 120) fun (u1 : Unit) =>
  Option.bind (room (((([] : List GVar) ++ a0.fParams).length : Int) + (a0.fLocals.length : Int)) 120) fun (u3 : Unit) =>
  some ((([] : List GVar) ++ a0.fParams) ++ a0.fLocals)
def ref12_lines_L1 (a0 : List GStmt) (a1 : GLine_ref12) (ref12_lines_rec : (List GStmt) → GLine_ref12 → Option (List GLine_ref12)) : Nat → (List GLine_ref12) → Int → Option ((List GLine_ref12))
  | 0, _, _ => none
  | n + 1, x34, x35 =>
    if (decide (x35 < (a0.length : Int))) = true then
      Option.bind (idx a0 x35) fun (y74 : GStmt) =>
      Option.bind (room ((x34.length : Int) + ([({ a1 with fS := y74 } : GLine_ref12)].length : Int)) 312) fun (u78 : Unit) =>
      Option.bind (idx a0 x35) fun (y86 : GStmt) =>
      Option.bind (ref12_lines_rec y86.fBody ({ ({ a1 with fS := y74 } : GLine_ref12) with fDeep := w_i64 ((({ a1 with fS := y74 } : GLine_ref12).fDeep) + 1) } : GLine_ref12)) fun (y88 : (List GLine_ref12)) =>
      Option.bind (room (((x34 ++ [({ a1 with fS := y74 } : GLine_ref12)]).length : Int) + (y88.length : Int)) 312) fun (u90 : Unit) =>
      Option.bind (idx a0 x35) fun (y98 : GStmt) =>
      Option.bind (ref12_lines_rec y98.fElse ({ ({ a1 with fS := y74 } : GLine_ref12) with fDeep := w_i64 ((({ a1 with fS := y74 } : GLine_ref12).fDeep) + 1) } : GLine_ref12)) fun (y100 : (List GLine_ref12)) =>
      Option.bind (room ((((x34 ++ [({ a1 with fS := y74 } : GLine_ref12)]) ++ y88).length : Int) + (y100.length : Int)) 312) fun (u102 : Unit) =>
      ref12_lines_L1 a0 a1 ref12_lines_rec n (((x34 ++ [({ a1 with fS := y74 } : GLine_ref12)]) ++ y88) ++ y100) (w_i64 (x35 + 1))
    else
      some x34
def ref12_lines : Nat → (List GStmt) → GLine_ref12 → Option (List GLine_ref12)
  | 0, _, _ => none
  | n + 1, a0, a1 =>
    Option.bind (ref12_lines_L1 a0 a1 (ref12_lines n) ((((a0.length : Int) : Int) - (0)).toNat + 1) [] 0) fun x106 =>
    some x106
def ref12_Types_L2 (a0 : List GClass) (x449 : Int) : Nat → (List GNote_ref12) → Int → Option ((List GNote_ref12))
  | 0, _, _ => none
  | n + 1, x917, x918 =>
    Option.bind (idx a0 x449) fun (y940 : GClass) =>
    if (decide (x918 < (y940.fFields.length : Int))) = true then
      Option.bind (idx a0 x449) fun (y947 : GClass) =>
      Option.bind (idx y947.fFields x918) fun (y949 : GVar) =>
      Option.bind (room ((x917.length : Int) + ([({ fClass := x449, fMethod := (-1), fVar := x918, fType := y949.fType, fAt := y949.fAt } : GNote_ref12)].length : Int)) 128) fun (u953 : Unit) =>
      ref12_Types_L2 a0 x449 n (x917 ++ [({ fClass := x449, fMethod := (-1), fVar := x918, fType := y949.fType, fAt := y949.fAt } : GNote_ref12)]) (w_i64 (x918 + 1))
    else
      some x917
def ref12_Types_L4 (x449 : Int) (x1087 : Int) (y1234 : (List GVar)) : Nat → (List GNote_ref12) → Int → Option ((List GNote_ref12))
  | 0, _, _ => none
  | n + 1, x1249, x1250 =>
    if (decide (x1250 < (y1234.length : Int))) = true then
      Option.bind (idx y1234 x1250) fun (y1273 : GVar) =>
      Option.bind (idx y1234 x1250) fun (y1275 : GVar) =>
      Option.bind (room ((x1249.length : Int) + ([({ fClass := x449, fMethod := x1087, fVar := x1250, fType := y1273.fType, fAt := y1275.fAt } : GNote_ref12)].length : Int)) 128) fun (u1277 : Unit) =>
      ref12_Types_L4 x449 x1087 y1234 n (x1249 ++ [({ fClass := x449, fMethod := x1087, fVar := x1250, fType := y1273.fType, fAt := y1275.fAt } : GNote_ref12)]) (w_i64 (x1250 + 1))
    else
      some x1249
def ref12_Types_L5 (x449 : Int) (x1087 : Int) (y1285 : (List GLine_ref12)) : Nat → (List GNote_ref12) → Int → Option ((List GNote_ref12))
  | 0, _, _ => none
  | n + 1, x1302, x1303 =>
    if (decide (x1303 < (y1285.length : Int))) = true then
      Option.bind (Option.bind (idx y1285 x1303) fun (y1324 : GLine_ref12) =>
      if (y1324.fS.fType.fKind == 2) = true then
        Option.bind (idx y1285 x1303) fun (y1327 : GLine_ref12) =>
        Option.bind (idx y1285 x1303) fun (y1329 : GLine_ref12) =>
        Option.bind (room ((x1302.length : Int) + ([({ fClass := x449, fMethod := x1087, fVar := (-1), fType := y1327.fS.fType, fAt := y1329.fS.fAt } : GNote_ref12)].length : Int)) 128) fun (u1331 : Unit) =>
        some (x1302 ++ [({ fClass := x449, fMethod := x1087, fVar := (-1), fType := y1327.fS.fType, fAt := y1329.fS.fAt } : GNote_ref12)])
      else
        some x1302 : Option ((List GNote_ref12))) fun x1333 =>
      ref12_Types_L5 x449 x1087 y1285 n x1333 (w_i64 (x1303 + 1))
    else
      some x1302
def ref12_Types_L3 (a0 : List GClass) (x449 : Int) : Nat → (List GNote_ref12) → Int → Option ((List GNote_ref12))
  | 0, _, _ => none
  | n + 1, x1086, x1087 =>
    Option.bind (idx a0 x449) fun (y1217 : GClass) =>
    if (decide (x1087 < (y1217.fMethods.length : Int))) = true then
      Option.bind (idx a0 x449) fun (y1224 : GClass) =>
      Option.bind (idx y1224.fMethods x1087) fun (y1226 : GMethod) =>
      Option.bind (room ((x1086.length : Int) + ([({ fClass := x449, fMethod := x1087, fVar := (-1), fType := y1226.fRet, fAt := y1226.fAt } : GNote_ref12)].length : Int)) 128) fun (u1230 : Unit) =>
      Option.bind (ref12_Vars y1226) fun (y1234 : (List GVar)) =>
      Option.bind (ref12_Types_L4 x449 x1087 y1234 ((((y1234.length : Int) : Int) - (0)).toNat + 1) (x1086 ++ [({ fClass := x449, fMethod := x1087, fVar := (-1), fType := y1226.fRet, fAt := y1226.fAt } : GNote_ref12)]) 0) fun x1281 =>
      Option.bind (ref12_lines (mLGStmt y1226.fBody + mGLine_ref12 ({ fClass := 0, fMethod := 0, fDeep := 0, fS := zGStmt } : GLine_ref12) + 1) y1226.fBody ({ fClass := 0, fMethod := 0, fDeep := 0, fS := zGStmt } : GLine_ref12)) fun (y1285 : (List GLine_ref12)) =>
      Option.bind (ref12_Types_L5 x449 x1087 y1285 ((((y1285.length : Int) : Int) - (0)).toNat + 1) x1281 0) fun x1338 =>
      ref12_Types_L3 a0 x449 n x1338 (w_i64 (x1087 + 1))
    else
      some x1086
def ref12_Types_L1 (a0 : List GClass) : Nat → (List GNote_ref12) → Int → Option ((List GNote_ref12))
  | 0, _, _ => none
  | n + 1, x448, x449 =>
    if (decide (x449 < (a0.length : Int))) = true then
      Option.bind (ref12_Types_L2 a0 x449 (Option.getD (Option.bind (idx a0 x449) fun (y959 : GClass) => some ((((y959.fFields.length : Int) : Int) - (0)).toNat + 1)) 1) x448 0) fun x957 =>
      Option.bind (ref12_Types_L3 a0 x449 (Option.getD (Option.bind (idx a0 x449) fun (y1344 : GClass) => some ((((y1344.fMethods.length : Int) : Int) - (0)).toNat + 1)) 1) x957 0) fun x1342 =>
      ref12_Types_L1 a0 n x1342 (w_i64 (x449 + 1))
    else
      some x448
def ref12_Types (a0 : List GClass) : Option (List GNote_ref12) :=
  Option.bind (ref12_Types_L1 a0 ((((a0.length : Int) : Int) - (0)).toNat + 1) [] 0) fun x1348 =>
  some x1348
def ref13_types_L1 (a0 : List GClass) (y7 : (List GNote_ref12)) : Nat → Int → Option (Ctl (GFault) (Unit))
  | 0, _ => none
  | n + 1, x33 =>
    if (decide (x33 < (y7.length : Int))) = true then
      Ctl.go (obind (idx y7 x33) fun (y62 : GNote_ref12) =>
      if (y62.fType.fKind != 2) = true then
        .next ()
      else
        obind (ref13_Arity a0 y62.fType.fClass) fun (y67 : Int) =>
        if (decide (y67 < 0)) = true then
          obind (idx y7 x33) fun (y70 : GNote_ref12) =>
          obind (ref13_fault 8 y70.fAt) fun (y72 : GFault) =>
          .stop (some (.stop y72))
        else
          obind (if (y62.fType.fN != 0) = true then
            some (y62.fType.fN != y67)
          else
            some false : Option (Bool)) fun x75 =>
          if x75 = true then
            obind (idx y7 x33) fun (y79 : GNote_ref12) =>
            obind (ref13_fault 10 y79.fAt) fun (y81 : GFault) =>
            .stop (some (.stop y81))
          else
            .next () : Ctl (Option (Ctl (GFault) (Unit))) (Unit)) fun _ =>
      ref13_types_L1 a0 y7 n (w_i64 (x33 + 1))
    else
      some (.next ())
def ref13_types (a0 : List GClass) (a1 : Int) : Option GFault :=
  Option.bind (cutL a0 a1 (w_i64 (a1 + 1))) fun (y5 : List GClass) =>
  Option.bind (ref12_Types y5) fun (y7 : (List GNote_ref12)) =>
  Option.bind (ref13_types_L1 a0 y7 ((((y7.length : Int) : Int) - (0)).toNat + 1) 0) fun lr84 =>
  Ctl.elim lr84 (fun v => some v) fun _ =>
  some ({ fErr := 0, fAt := 0 } : GFault)
def ref13_names_L1 (a0 : List GVar) : Nat → (List (List UInt8)) → Int → Option ((List (List UInt8)))
  | 0, _, _ => none
  | n + 1, x10, x11 =>
    if (decide (x11 < (a0.length : Int))) = true then
      Option.bind (idx a0 x11) fun (y28 : GVar) =>
      Option.bind (room ((x10.length : Int) + ([y28.fName].length : Int)) 16) fun (u30 : Unit) =>
      ref13_names_L1 a0 n (x10 ++ [y28.fName]) (w_i64 (x11 + 1))
    else
      some x10
def ref13_names (a0 : List GVar) : Option (List (List UInt8)) :=
  Option.bind (ref13_names_L1 a0 ((((a0.length : Int) : Int) - (0)).toNat + 1) [] 0) fun x34 =>
  some x34
def ref13_class_L1 (y3 : GClass) : Nat → (List (List UInt8)) → Int → Option (Ctl (GFault) (Unit))
  | 0, _, _ => none
  | n + 1, x87, x88 =>
    if (decide (x88 < (y3.fMethods.length : Int))) = true then
      Option.bind (idx y3.fMethods x88) fun (y127 : GMethod) =>
      Option.bind (room ((x87.length : Int) + ([y127.fName].length : Int)) 16) fun (u131 : Unit) =>
      Option.bind (ref13_Twice (x87 ++ [y127.fName])) fun (y135 : Int) =>
      if (decide (y135 ≥ 0)) = true then
        Option.bind (ref13_fault 7 y127.fAt) fun (y138 : GFault) =>
        some (.stop y138)
      else
        Option.bind (ref12_Vars y127) fun (y142 : (List GVar)) =>
        Option.bind (ref13_names y142) fun (y148 : (List (List UInt8))) =>
        Option.bind (ref13_Twice y148) fun (y150 : Int) =>
        if (decide (y150 ≥ 0)) = true then
          Option.bind (idx y142 y150) fun (y153 : GVar) =>
          Option.bind (ref13_fault 7 y153.fAt) fun (y155 : GFault) =>
          some (.stop y155)
        else
          ref13_class_L1 y3 n (x87 ++ [y127.fName]) (w_i64 (x88 + 1))
    else
      some (.next ())
def ref13_class (a0 : List GClass) (a1 : Int) : Option GFault :=
  Option.bind (idx a0 a1) fun (y3 : GClass) =>
  Option.bind (Option.bind (ref13_Find a0 y3.fName) fun (y7 : Int) =>
  if (decide (y7 < a1)) = true then
    some true
  else
    Option.bind (ref13_Twice y3.fParams) fun (y10 : Int) =>
    some (decide (y10 ≥ 0)) : Option (Bool)) fun x12 =>
  if x12 = true then
    Option.bind (ref13_fault 7 y3.fAt) fun (y16 : GFault) =>
    some y16
  else
    Option.bind (if (!(y3.fSuper == [])) = true then
      Option.bind (ref13_Find a0 y3.fSuper) fun (y19 : Int) =>
      some (decide (y19 < 0))
    else
      some false : Option (Bool)) fun x21 =>
    if x21 = true then
      Option.bind (ref13_fault 8 y3.fAt) fun (y25 : GFault) =>
      some y25
    else
      Option.bind (if (!(y3.fSuper == [])) = true then
        Option.bind (ref13_Arity a0 y3.fSuper) fun (y28 : Int) =>
        some (y28 != (y3.fAbove.length : Int))
      else
        some false : Option (Bool)) fun x30 =>
      if x30 = true then
        Option.bind (ref13_fault 10 y3.fAt) fun (y34 : GFault) =>
        some y34
      else
        Option.bind (ref13_types a0 a1) fun (y38 : GFault) =>
        if (y38.fErr != 0) = true then
          some y38
        else
          Option.bind (ref13_names y3.fFields) fun (y45 : (List (List UInt8))) =>
          Option.bind (ref13_Twice y45) fun (y47 : Int) =>
          if (decide (y47 ≥ 0)) = true then
            Option.bind (idx y3.fFields y47) fun (y50 : GVar) =>
            Option.bind (ref13_fault 7 y50.fAt) fun (y52 : GFault) =>
            some y52
          else
            Option.bind (ref13_class_L1 y3 ((((y3.fMethods.length : Int) : Int) - (0)).toNat + 1) [] 0) fun lr159 =>
            Ctl.elim lr159 (fun v => some v) fun _ =>
            some ({ fErr := 0, fAt := 0 } : GFault)
def ref13_Check_L1 (a0 : List GClass) : Nat → Int → Option (Ctl (GFault) (Unit))
  | 0, _ => none
  | n + 1, x14 =>
    if (decide (x14 < (a0.length : Int))) = true then
      Option.bind (ref13_class a0 x14) fun (y25 : GFault) =>
      if (y25.fErr != 0) = true then
        some (.stop y25)
      else
        ref13_Check_L1 a0 n (w_i64 (x14 + 1))
    else
      some (.next ())
def ref13_Check (a0 : List GClass) : Option GFault :=
  Option.bind (ref10_Right a0) fun (y3 : Bool) =>
  if (!y3) = true then
    Option.bind (ref13_fault 28 0) fun (y6 : GFault) =>
    some y6
  else
    Option.bind (ref13_Check_L1 a0 ((((a0.length : Int) : Int) - (0)).toNat + 1) 0) fun lr29 =>
    Ctl.elim lr29 (fun v => some v) fun _ =>
    some ({ fErr := 0, fAt := 0 } : GFault)
def ref14_has_L1 (a0 : List Int) (a1 : Int) : Nat → Int → Option (Ctl (Bool) (Unit))
  | 0, _ => none
  | n + 1, x7 =>
    if (decide (x7 < (a0.length : Int))) = true then
      Option.bind (idx a0 x7) fun (y18 : Int) =>
      if (y18 == a1) = true then
        some (.stop true)
      else
        ref14_has_L1 a0 a1 n (w_i64 (x7 + 1))
    else
      some (.next ())
def ref14_has (a0 : List Int) (a1 : Int) : Option Bool :=
  Option.bind (ref14_has_L1 a0 a1 ((((a0.length : Int) : Int) - (0)).toNat + 1) 0) fun lr22 =>
  Ctl.elim lr22 (fun v => some v) fun _ =>
  some false
def ref14_Chain_L1 (a0 : List GClass) : Nat → (List Int) → Int → Option (Ctl ((List Int)) ((List Int)))
  | 0, _, _ => none
  | n + 1, x25, x26 =>
    Option.bind (if (decide (x26 ≥ 0)) = true then
      Option.bind (ref14_has x25 x26) fun (y50 : Bool) =>
      some (!y50)
    else
      some false : Option (Bool)) fun x52 =>
    if x52 = true then
      Option.bind (room ((x25.length : Int) + ([x26].length : Int)) 8) fun (u58 : Unit) =>
      Option.bind (idx a0 x26) fun (y62 : GClass) =>
      if (y62.fSuper == []) = true then
        some (.stop (x25 ++ [x26]))
      else
        Option.bind (idx a0 x26) fun (y65 : GClass) =>
        Option.bind (ref13_Find a0 y65.fSuper) fun (y67 : Int) =>
        ref14_Chain_L1 a0 n (x25 ++ [x26]) y67
    else
      some (.next x25)
def ref14_Chain (a0 : List GClass) (a1 : List UInt8) : Option (List Int) :=
  Option.bind (ref13_Find a0 a1) fun (y3 : Int) =>
  Option.bind (ref14_Chain_L1 a0 (a0.length + 2) [] y3) fun lr72 =>
  Ctl.elim lr72 (fun v => some v) fun x71 =>
  some x71
def ref14_Check_L1 (a0 : List GClass) : Nat → Int → Option (Ctl (GFault) (Unit))
  | 0, _ => none
  | n + 1, x29 =>
    if (decide (x29 < (a0.length : Int))) = true then
      Option.bind (idx a0 x29) fun (y64 : GClass) =>
      Option.bind (ref14_Chain a0 y64.fName) fun (y66 : (List Int)) =>
      Option.bind (idx y66 (w_i64 ((y66.length : Int) - 1))) fun (y72 : Int) =>
      Option.bind (idx a0 y72) fun (y74 : GClass) =>
      Option.bind (if (!(y74.fSuper == [])) = true then
        Option.bind (ref13_Find a0 y74.fSuper) fun (y77 : Int) =>
        Option.bind (ref14_has y66 y77) fun (y79 : Bool) =>
        some y79
      else
        some false : Option (Bool)) fun x81 =>
      if x81 = true then
        Option.bind (idx a0 x29) fun (y85 : GClass) =>
        some (.stop ({ fErr := 9, fAt := y85.fAt } : GFault))
      else
        ref14_Check_L1 a0 n (w_i64 (x29 + 1))
    else
      some (.next ())
def ref14_Check (a0 : List GClass) : Option GFault :=
  Option.bind (ref14_Check_L1 a0 ((((a0.length : Int) : Int) - (0)).toNat + 1) 0) fun lr88 =>
  Ctl.elim lr88 (fun v => some v) fun _ =>
  some ({ fErr := 0, fAt := 0 } : GFault)
def above_up (a0 : List GClass) (a1 : List UInt8) : Option ((List GClass) × (List UInt8)) :=
  some (a0, a1)
def slices_IndexFunc_api_Class_L1 (a0 : List GClass) (q1 : GClass → Option Bool) : Nat → Int → Option (Ctl (Int) (Unit))
  | 0, _ => none
  | n + 1, x11 =>
    if (decide (x11 < (a0.length : Int))) = true then
      Option.bind (idx a0 x11) fun (y28 : GClass) =>
      Option.bind (q1 y28) fun (y30 : Bool) =>
      if y30 = true then
        some (.stop x11)
      else
        slices_IndexFunc_api_Class_L1 a0 q1 n (w_i64 (x11 + 1))
    else
      some (.next ())
def slices_IndexFunc_api_Class (a0 : List GClass) (q1 : GClass → Option Bool) : Option Int :=
  Option.bind (slices_IndexFunc_api_Class_L1 a0 q1 ((((a0.length : Int) : Int) - (0)).toNat + 1) 0) fun lr34 =>
  Ctl.elim lr34 (fun v => some v) fun _ =>
  some (-1)
def table_Find_1 (a0 : GClass) (c0 : List UInt8) : Option Bool :=
  some (a0.fName == c0)
def table_Find (a0 : List GClass) (a1 : List UInt8) : Option Int :=
  Option.bind (slices_IndexFunc_api_Class a0 (fun (z1 : GClass) => table_Find_1 z1 a1)) fun (y2 : Int) =>
  some y2
def above_up_1_L1 (c0 : List GClass) (sp : Nat) (rows : List (Int)) : Nat → Nat → (List UInt8) → Int → Option (Ctl (Nat) (Nat))
  | 0, _, _, _ => none
  | n + 1, x19, x20, x21 =>
    if (decide (x21 < (w_i64 ((c0.length : Int) + 1)))) = true then
      Option.bind (table_Find c0 x20) fun (y46 : Int) =>
      Option.bind (if (decide (y46 < 0)) = true then
        some (x19, true)
      else
        Option.bind (yck rows sp x19 y46) fun (u49 : Unit) =>
        some ((x19 + 1), (!(!(x19 == sp)))) : Option (Nat × Bool)) fun (x51, x52) =>
      if x52 = true then
        some (.stop x51)
      else
        Option.bind (idx c0 y46) fun (y58 : GClass) =>
        if (y58.fSuper == []) = true then
          some (.stop x51)
        else
          above_up_1_L1 c0 sp rows n x51 y58.fSuper (w_i64 (x21 + 1))
    else
      some (.next x19)
def above_up_1 (rows : List (Int)) (sp : Nat) (c0 : List GClass) (c1 : List UInt8) : Option Nat :=
  Option.bind (above_up_1_L1 c0 sp rows ((((w_i64 ((c0.length : Int) + 1)) : Int) - (0)).toNat + 1) 0 c1 0) fun lr65 =>
  Ctl.elim lr65 (fun v => some v) fun x64 =>
  some x64
def itR_up_n (p : List GClass) : Nat → List UInt8 → Option (List Int)
  | 0, _ => some []
  | n + 1, name => Option.bind (table_Find p name) fun i =>
    if i < 0 then some [] else
    Option.bind (idx p i) fun c =>
    if c.fSuper == [] then some [i] else
    Option.bind (itR_up_n p n c.fSuper) fun l => some (i :: l)
def itR_up (p : List GClass) (name : List UInt8) : Option (List Int) := if p.length < 9223372036854775806 then itR_up_n p (p.length + 1) name else none
def slices_Index_int_L1 (a0 : List Int) (a1 : Int) : Nat → Int → Option (Ctl (Int) (Unit))
  | 0, _ => none
  | n + 1, x7 =>
    if (decide (x7 < (a0.length : Int))) = true then
      Option.bind (idx a0 x7) fun (y18 : Int) =>
      if (a1 == y18) = true then
        some (.stop x7)
      else
        slices_Index_int_L1 a0 a1 n (w_i64 (x7 + 1))
    else
      some (.next ())
def slices_Index_int (a0 : List Int) (a1 : Int) : Option Int :=
  Option.bind (slices_Index_int_L1 a0 a1 ((((a0.length : Int) : Int) - (0)).toNat + 1) 0) fun lr22 =>
  Ctl.elim lr22 (fun v => some v) fun _ =>
  some (-1)
def slices_Contains_int (a0 : List Int) (a1 : Int) : Option Bool :=
  Option.bind (slices_Index_int a0 a1) fun (y1 : Int) =>
  some (decide (y1 ≥ 0))
def above_Chain_B1  : Int → (List Int) → Option (Ctl (List Int) (List Int))
  | x23, x13 =>
    Option.bind (slices_Contains_int x13 x23) fun (y26 : Bool) =>
    if y26 = true then
      some (.stop x13)
    else
      Option.bind (room ((x13.length : Int) + ([x23].length : Int)) 8) fun (u29 : Unit) =>
      some (.next (x13 ++ [x23]))
def above_Chain (a0 : List GClass) (a1 : List UInt8) : Option (List Int) :=
  Option.bind (above_up a0 a1) fun (y3 : (List GClass) × (List UInt8)) =>
  Option.bind (itR_up y3.1 y3.2) fun (rows33 : List (Int)) =>
  Option.bind (runs above_Chain_B1 rows33 []) fun (lr35 : Ctl (List Int) (List Int)) =>
  Ctl.elim lr35 (fun x32 =>
    some x32) (fun x13 =>
    some x13)
def method_first_1_w (a0 : Gheld_method) (b0 : List UInt8) (b1 : List GClass) (b2 : GFound_method) (b3 : Bool) : Option (Bool × GFound_method × Bool) :=
  if (a0.fMethod.fName == b0) = true then
    Option.bind (idx b1 a0.fclass) fun (y2 : GClass) =>
    some ((!true), ({ ({ zGFound_method with fClass := y2.fName } : GFound_method) with fMethod := a0.fMethod } : GFound_method), true)
  else
    some ((!b3), b2, b3)
def method_walk_w_L2 (b0 : List UInt8) (b1 : List GClass) (y114 : Int) (y118 : GClass) : Nat → GFound_method → Bool → Int → Option (Ctl (GFound_method × Bool) (GFound_method × Bool))
  | 0, _, _, _ => none
  | n + 1, x130, x131, x132 =>
    if (decide (x132 < (y118.fMethods.length : Int))) = true then
      Option.bind (idx y118.fMethods x132) fun (y149 : GMethod) =>
      Option.bind (method_first_1_w ({ fMethod := y149, fclass := y114 } : Gheld_method) b0 b1 x130 x131) fun (y153 : Bool × GFound_method × Bool) =>
      if (!y153.1) = true then
        some (.stop (y153.2.1, y153.2.2))
      else
        method_walk_w_L2 b0 b1 y114 y118 n y153.2.1 y153.2.2 (w_i64 (x132 + 1))
    else
      some (.next (x130, x131))
def method_walk_w_L1 (a0 : List GClass) (a1 : List Int) (b0 : List UInt8) (b1 : List GClass) : Nat → GFound_method → Bool → Int → Option (Ctl (GFound_method × Bool) (GFound_method × Bool))
  | 0, _, _, _ => none
  | n + 1, x53, x54, x55 =>
    if (decide (x55 < (a1.length : Int))) = true then
      Option.bind (idx a1 x55) fun (y114 : Int) =>
      Option.bind (idx a0 y114) fun (y118 : GClass) =>
      Option.bind (method_walk_w_L2 b0 b1 y114 y118 ((((y118.fMethods.length : Int) : Int) - (0)).toNat + 1) x53 x54 0) fun lr161 =>
      Ctl.elim lr161 (fun v => some (.stop v)) fun (x159, x160) =>
      method_walk_w_L1 a0 a1 b0 b1 n x159 x160 (w_i64 (x55 + 1))
    else
      some (.next (x53, x54))
def method_walk_w (a0 : List GClass) (a1 : List Int) (b0 : List UInt8) (b1 : List GClass) (b2 : GFound_method) (b3 : Bool) : Option (GFound_method × Bool) :=
  Option.bind (method_walk_w_L1 a0 a1 b0 b1 ((((a1.length : Int) : Int) - (0)).toNat + 1) b2 b3 0) fun lr168 =>
  Ctl.elim lr168 (fun v => some v) fun (x166, x167) =>
  some (x166, x167)
def method_first (a0 : List GClass) (a1 : List Int) (a2 : List UInt8) : Option (GFound_method × Bool) :=
  Option.bind (method_walk_w a0 a1 a2 a0 ({ fClass := [], fMethod := zGMethod } : GFound_method) false) fun (y3 : GFound_method × Bool) =>
  some (y3.1, y3.2)
def method_Over (a0 : List GClass) (a1 : List UInt8) (a2 : List UInt8) : Option (GFound_method × Bool) :=
  Option.bind (above_Chain a0 a1) fun (y3 : (List Int)) =>
  Option.bind (cutL y3 (if (y3.length : Int) < 1 then (y3.length : Int) else 1) y3.length) fun (y5 : List Int) =>
  Option.bind (method_first a0 y5 a2) fun (y7 : GFound_method × Bool) =>
  some (y7.1, y7.2)
def kind_Unique (a0 : GType) : Option Bool :=
  if (a0.fKind == 2) = true then
    some (a0.fOwn.a0.fKind == 6)
  else
    some false
def method_Alike (a0 : GType) (a1 : GType) : Option Bool :=
  Option.bind (if (a0.fKind != 2) = true then
    some true
  else
    some (a1.fKind != 2) : Option (Bool)) fun x2 =>
  if x2 = true then
    some (a0.fKind == a1.fKind)
  else
    if (a0.fClass == a1.fClass) = true then
      Option.bind (kind_Unique a0) fun (y7 : Bool) =>
      Option.bind (kind_Unique a1) fun (y9 : Bool) =>
      some (y7 == y9)
    else
      some false
def slices_EqualFunc_api_Var_L1 (a0 : List GVar) (a1 : List GVar) (q2 : GVar → GVar → Option Bool) : Nat → Int → Option (Ctl (Bool) (Unit))
  | 0, _ => none
  | n + 1, x16 =>
    if (decide (x16 < (a0.length : Int))) = true then
      Option.bind (idx a0 x16) fun (y35 : GVar) =>
      Option.bind (idx a1 x16) fun (y39 : GVar) =>
      Option.bind (q2 y35 y39) fun (y43 : Bool) =>
      if (!y43) = true then
        some (.stop false)
      else
        slices_EqualFunc_api_Var_L1 a0 a1 q2 n (w_i64 (x16 + 1))
    else
      some (.next ())
def slices_EqualFunc_api_Var (a0 : List GVar) (a1 : List GVar) (q2 : GVar → GVar → Option Bool) : Option Bool :=
  if ((a0.length : Int) != (a1.length : Int)) = true then
    some false
  else
    Option.bind (slices_EqualFunc_api_Var_L1 a0 a1 q2 ((((a0.length : Int) : Int) - (0)).toNat + 1) 0) fun lr47 =>
    Ctl.elim lr47 (fun v => some v) fun _ =>
    some true
def method_fits_1 (a0 : GVar) (a1 : GVar) : Option Bool :=
  Option.bind (method_Alike a0.fType a1.fType) fun (y1 : Bool) =>
  some y1
def method_fits (a0 : GMethod) (a1 : GMethod) : Option Bool :=
  if a0.fPure = true then
    Option.bind (method_Alike a0.fRet a1.fRet) fun (y2 : Bool) =>
    if y2 = true then
      Option.bind (slices_EqualFunc_api_Var a0.fParams a1.fParams (fun (z5 : GVar) (z6 : GVar) => method_fits_1 z5 z6)) fun (y7 : Bool) =>
      some y7
    else
      some false
  else
    if (!a1.fPure) = true then
      Option.bind (method_Alike a0.fRet a1.fRet) fun (y10 : Bool) =>
      if y10 = true then
        Option.bind (slices_EqualFunc_api_Var a0.fParams a1.fParams (fun (z13 : GVar) (z14 : GVar) => method_fits_1 z13 z14)) fun (y15 : Bool) =>
        some y15
      else
        some false
    else
      some false
def method_Check_L2 (a0 : List GClass) (y122 : GClass) : Nat → Int → Option (Ctl (GFault) (Unit))
  | 0, _ => none
  | n + 1, x140 =>
    if (decide (x140 < (y122.fMethods.length : Int))) = true then
      Option.bind (idx y122.fMethods x140) fun (y161 : GMethod) =>
      Option.bind (method_Over a0 y122.fName y161.fName) fun (y165 : GFound_method × Bool) =>
      Option.bind (if y165.2 = true then
        Option.bind (method_fits y161 y165.1.fMethod) fun (y168 : Bool) =>
        some (!y168)
      else
        some false : Option (Bool)) fun x170 =>
      if x170 = true then
        some (.stop ({ fErr := 17, fAt := y161.fAt } : GFault))
      else
        method_Check_L2 a0 y122 n (w_i64 (x140 + 1))
    else
      some (.next ())
def method_Check_L1 (a0 : List GClass) : Nat → Int → Option (Ctl (GFault) (Unit))
  | 0, _ => none
  | n + 1, x59 =>
    if (decide (x59 < (a0.length : Int))) = true then
      Option.bind (idx a0 x59) fun (y122 : GClass) =>
      Option.bind (method_Check_L2 a0 y122 ((((y122.fMethods.length : Int) : Int) - (0)).toNat + 1) 0) fun lr175 =>
      Ctl.elim lr175 (fun v => some (.stop v)) fun _ =>
      method_Check_L1 a0 n (w_i64 (x59 + 1))
    else
      some (.next ())
def method_Check (a0 : List GClass) : Option GFault :=
  Option.bind (method_Check_L1 a0 ((((a0.length : Int) : Int) - (0)).toNat + 1) 0) fun lr178 =>
  Ctl.elim lr178 (fun v => some v) fun _ =>
  some ({ fErr := 0, fAt := 0 } : GFault)
def ref14_Below (a0 : List GClass) (a1 : List UInt8) (a2 : List UInt8) : Option Bool :=
  Option.bind (ref13_Find a0 a2) fun (y3 : Int) =>
  if (decide (y3 ≥ 0)) = true then
    Option.bind (ref14_Chain a0 a1) fun (y6 : (List Int)) =>
    Option.bind (ref14_has y6 y3) fun (y8 : Bool) =>
    some y8
  else
    some false
def law17_awake  : Option Bool :=
  Option.bind (method_Check [({ fName := [65], fParams := [], fSuper := [], fAbove := [], fFields := [], fMethods := [({ fName := [109], fPure := false, fRet := zGType, fParams := [({ fName := [120], fType := ({ fKind := 1, fClass := [], fN := 0, fOwn := (⟨zGOwner, zGOwner, zGOwner, zGOwner⟩ : A4 GOwner) } : GType), fAt := 0 } : GVar)], fLocals := [], fBody := [], fAt := 0 } : GMethod)], fAt := 0 } : GClass), ({ fName := [66], fParams := [], fSuper := [65], fAbove := [], fFields := [], fMethods := [({ fName := [109], fPure := false, fRet := zGType, fParams := [], fLocals := [], fBody := [], fAt := 40 } : GMethod)], fAt := 0 } : GClass)]) fun (y1 : GFault) =>
  if (bGFault y1 ({ fErr := 17, fAt := 40 } : GFault)) = true then
    Option.bind (cutL [({ fName := [65], fParams := [], fSuper := [], fAbove := [], fFields := [], fMethods := [({ fName := [109], fPure := false, fRet := zGType, fParams := [({ fName := [120], fType := ({ fKind := 1, fClass := [], fN := 0, fOwn := (⟨zGOwner, zGOwner, zGOwner, zGOwner⟩ : A4 GOwner) } : GType), fAt := 0 } : GVar)], fLocals := [], fBody := [], fAt := 0 } : GMethod)], fAt := 0 } : GClass), ({ fName := [66], fParams := [], fSuper := [65], fAbove := [], fFields := [], fMethods := [({ fName := [109], fPure := false, fRet := zGType, fParams := [], fLocals := [], fBody := [], fAt := 40 } : GMethod)], fAt := 0 } : GClass)] 0 1) fun (y4 : List GClass) =>
    Option.bind (method_Check y4) fun (y6 : GFault) =>
    some (bGFault y6 ({ fErr := 0, fAt := 0 } : GFault))
  else
    some false
def method_Find (a0 : List GClass) (a1 : List UInt8) (a2 : List UInt8) : Option (GFound_method × Bool) :=
  Option.bind (above_Chain a0 a1) fun (y1 : (List Int)) =>
  Option.bind (method_first a0 y1 a2) fun (y3 : GFound_method × Bool) =>
  some (y3.1, y3.2)
def law17_MethodKeeps_L1 (y25 : GFound_method × Bool) (y29 : GFound_method × Bool) : Nat → Int → Option (Ctl (Bool) (Unit))
  | 0, _ => none
  | n + 1, x64 =>
    if (decide (x64 < (y25.1.fMethod.fParams.length : Int))) = true then
      Option.bind (idx y25.1.fMethod.fParams x64) fun (y87 : GVar) =>
      Option.bind (idx y29.1.fMethod.fParams x64) fun (y89 : GVar) =>
      Option.bind (method_Alike y87.fType y89.fType) fun (y91 : Bool) =>
      if (!y91) = true then
        some (.stop false)
      else
        law17_MethodKeeps_L1 y25 y29 n (w_i64 (x64 + 1))
    else
      some (.next ())
def law17_MethodKeeps (a0 : List GClass) (a1 : A2 (List UInt8)) (a2 : List UInt8) : Option Bool :=
  Option.bind (Option.bind (ref10_Heavy a0) fun (y3 : Bool) =>
  if y3 = true then
    some true
  else
    Option.bind (ref13_Check a0) fun (y6 : GFault) =>
    if (y6.fErr != 0) = true then
      some true
    else
      Option.bind (ref14_Check a0) fun (y9 : GFault) =>
      if (y9.fErr != 0) = true then
        some true
      else
        Option.bind (method_Check a0) fun (y12 : GFault) =>
        if (y12.fErr != 0) = true then
          some true
        else
          Option.bind (ref14_Below a0 a1.a0 a1.a1) fun (y15 : Bool) =>
          some (!y15) : Option (Bool)) fun x17 =>
  if x17 = true then
    Option.bind law17_awake fun (y21 : Bool) =>
    some y21
  else
    Option.bind (method_Find a0 a1.a1 a2) fun (y25 : GFound_method × Bool) =>
    Option.bind (method_Find a0 a1.a0 a2) fun (y29 : GFound_method × Bool) =>
    if (!y25.2) = true then
      Option.bind law17_awake fun (y32 : Bool) =>
      some y32
    else
      Option.bind (if (!y29.2) = true then
        some true
      else
        Option.bind (ref14_Below a0 y29.1.fClass y25.1.fClass) fun (y35 : Bool) =>
        if (!y35) = true then
          some true
        else
          if y25.1.fMethod.fPure = true then
            if (!y29.1.fMethod.fPure) = true then
              some true
            else
              if ((y25.1.fMethod.fParams.length : Int) != (y29.1.fMethod.fParams.length : Int)) = true then
                some true
              else
                Option.bind (method_Alike y25.1.fMethod.fRet y29.1.fMethod.fRet) fun (y41 : Bool) =>
                some (!y41)
          else
            if ((y25.1.fMethod.fParams.length : Int) != (y29.1.fMethod.fParams.length : Int)) = true then
              some true
            else
              Option.bind (method_Alike y25.1.fMethod.fRet y29.1.fMethod.fRet) fun (y44 : Bool) =>
              some (!y44) : Option (Bool)) fun x46 =>
      if x46 = true then
        some false
      else
        Option.bind (law17_MethodKeeps_L1 y25 y29 ((((y25.1.fMethod.fParams.length : Int) : Int) - (0)).toNat + 1) 0) fun lr95 =>
        Ctl.elim lr95 (fun v => some v) fun _ =>
        Option.bind law17_awake fun (y97 : Bool) =>
        some y97
end
end Go.Proofs.Ytahieoaggbmicaa
