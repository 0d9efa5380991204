/- A part of the proof that the law MethodFind gives true for every input. -/
import Derived.Test.YtahieoaggbmicaaMethodFindA3
/- The types and the plain functions. -/
namespace Go.Proofs.Ytahieoaggbmicaa
open Go.RowKit Go.Abs
noncomputable section
structure GOwner where
  fKind : Int
  fN : Int
  deriving DecidableEq
abbrev zGOwner : GOwner := ({ fKind := 0, fN := 0 } : GOwner)
abbrev eGOwner (x : GOwner) : List PV := [.int .i64 x.fKind, .int .i64 x.fN]
structure GType where
  fKind : Int
  fClass : List UInt8
  fN : Int
  fOwn : A4 GOwner
  deriving DecidableEq
abbrev zGType : GType := ({ fKind := 0, fClass := [], fN := 0, fOwn := (⟨zGOwner, zGOwner, zGOwner, zGOwner⟩ : A4 GOwner) } : GType)
abbrev eGType (x : GType) : List PV := [.int .i64 x.fKind, .str x.fClass, .int .i64 x.fN, .int .i64 x.fOwn.a0.fKind, .int .i64 x.fOwn.a0.fN, .int .i64 x.fOwn.a1.fKind, .int .i64 x.fOwn.a1.fN, .int .i64 x.fOwn.a2.fKind, .int .i64 x.fOwn.a2.fN, .int .i64 x.fOwn.a3.fKind, .int .i64 x.fOwn.a3.fN]
structure GVar where
  fName : List UInt8
  fType : GType
  fAt : Int
  deriving DecidableEq
abbrev zGVar : GVar := ({ fName := [], fType := zGType, fAt := 0 } : GVar)
abbrev eGVar (x : GVar) : List PV := [.str x.fName, .int .i64 x.fType.fKind, .str x.fType.fClass, .int .i64 x.fType.fN, .int .i64 x.fType.fOwn.a0.fKind, .int .i64 x.fType.fOwn.a0.fN, .int .i64 x.fType.fOwn.a1.fKind, .int .i64 x.fType.fOwn.a1.fN, .int .i64 x.fType.fOwn.a2.fKind, .int .i64 x.fType.fOwn.a2.fN, .int .i64 x.fType.fOwn.a3.fKind, .int .i64 x.fType.fOwn.a3.fN, .int .i64 x.fAt]
structure GExpr where
  fKind : Int
  fNum : Int
  fName : List UInt8
  fKids : List GExpr
abbrev zGExpr : GExpr := ({ fKind := 0, fNum := 0, fName := [], fKids := [] } : GExpr)
mutual
def rGExpr : GExpr → List PV
  | ⟨z0, z1, z2, z3⟩ => [.int .i64 z0, .int .i64 z1, .str z2, .vs 4 (eLGExpr z3)]
def eLGExpr : List GExpr → List (List PV)
  | [] => []
  | x :: l => rGExpr x :: eLGExpr l
end
abbrev eGExpr (x : GExpr) : List PV := [.int .i64 x.fKind, .int .i64 x.fNum, .str x.fName, .vs 4 (eLGExpr x.fKids)]
theorem rGExpr_eq (x : GExpr) : rGExpr x = eGExpr x := by cases x; simp only [rGExpr]
theorem eLGExpr_map : ∀ l : List GExpr, eLGExpr l = l.map eGExpr
  | [] => by simp only [eLGExpr, List.map_nil]
  | x :: l => by simp only [eLGExpr, List.map_cons, rGExpr_eq, eLGExpr_map l]
mutual
def mGExpr : GExpr → Nat
  | ⟨_, _, _, z3⟩ => 1 + mLGExpr z3
def mLGExpr : List GExpr → Nat
  | [] => 0
  | x :: l => mGExpr x + mLGExpr l
end
structure GStmt where
  fKind : Int
  fX : List UInt8
  fY : List UInt8
  fName : List UInt8
  fType : GType
  fE : GExpr
  fArgs : List GExpr
  fBody : List GStmt
  fElse : List GStmt
  fAt : Int
abbrev zGStmt : GStmt := ({ fKind := 0, fX := [], fY := [], fName := [], fType := zGType, fE := zGExpr, fArgs := [], fBody := [], fElse := [], fAt := 0 } : GStmt)
mutual
def rGStmt : GStmt → List PV
  | ⟨z0, z1, z2, z3, z4, z5, z6, z7, z8, z9⟩ => [.int .i64 z0, .str z1, .str z2, .str z3, .int .i64 z4.fKind, .str z4.fClass, .int .i64 z4.fN, .int .i64 z4.fOwn.a0.fKind, .int .i64 z4.fOwn.a0.fN, .int .i64 z4.fOwn.a1.fKind, .int .i64 z4.fOwn.a1.fN, .int .i64 z4.fOwn.a2.fKind, .int .i64 z4.fOwn.a2.fN, .int .i64 z4.fOwn.a3.fKind, .int .i64 z4.fOwn.a3.fN, .int .i64 z5.fKind, .int .i64 z5.fNum, .str z5.fName, .vs 4 (eLGExpr z5.fKids), .vs 4 (eLGExpr z6), .vs 23 (eLGStmt z7), .vs 23 (eLGStmt z8), .int .i64 z9]
def eLGStmt : List GStmt → List (List PV)
  | [] => []
  | x :: l => rGStmt x :: eLGStmt l
end
abbrev eGStmt (x : GStmt) : List PV := [.int .i64 x.fKind, .str x.fX, .str x.fY, .str x.fName, .int .i64 x.fType.fKind, .str x.fType.fClass, .int .i64 x.fType.fN, .int .i64 x.fType.fOwn.a0.fKind, .int .i64 x.fType.fOwn.a0.fN, .int .i64 x.fType.fOwn.a1.fKind, .int .i64 x.fType.fOwn.a1.fN, .int .i64 x.fType.fOwn.a2.fKind, .int .i64 x.fType.fOwn.a2.fN, .int .i64 x.fType.fOwn.a3.fKind, .int .i64 x.fType.fOwn.a3.fN, .int .i64 x.fE.fKind, .int .i64 x.fE.fNum, .str x.fE.fName, .vs 4 (eLGExpr x.fE.fKids), .vs 4 (eLGExpr x.fArgs), .vs 23 (eLGStmt x.fBody), .vs 23 (eLGStmt x.fElse), .int .i64 x.fAt]
theorem rGStmt_eq (x : GStmt) : rGStmt x = eGStmt x := by cases x; simp only [rGStmt]
theorem eLGStmt_map : ∀ l : List GStmt, eLGStmt l = l.map eGStmt
  | [] => by simp only [eLGStmt, List.map_nil]
  | x :: l => by simp only [eLGStmt, List.map_cons, rGStmt_eq, eLGStmt_map l]
mutual
def mGStmt : GStmt → Nat
  | ⟨_, _, _, _, _, z5, z6, z7, z8, _⟩ => 1 + mGExpr z5 + mLGExpr z6 + mLGStmt z7 + mLGStmt z8
def mLGStmt : List GStmt → Nat
  | [] => 0
  | x :: l => mGStmt x + mLGStmt l
end
structure GMethod where
  fName : List UInt8
  fPure : Bool
  fRet : GType
  fParams : List GVar
  fLocals : List GVar
  fBody : List GStmt
  fAt : Int
abbrev zGMethod : GMethod := ({ fName := [], fPure := false, fRet := zGType, fParams := [], fLocals := [], fBody := [], fAt := 0 } : GMethod)
def mGMethod : GMethod → Nat
  | ⟨_, _, _, _, _, z5, _⟩ => 1 + mLGStmt z5
def mLGMethod : List GMethod → Nat
  | [] => 0
  | x :: l => mGMethod x + mLGMethod l
abbrev eGMethod (x : GMethod) : List PV := [.str x.fName, .bool x.fPure, .int .i64 x.fRet.fKind, .str x.fRet.fClass, .int .i64 x.fRet.fN, .int .i64 x.fRet.fOwn.a0.fKind, .int .i64 x.fRet.fOwn.a0.fN, .int .i64 x.fRet.fOwn.a1.fKind, .int .i64 x.fRet.fOwn.a1.fN, .int .i64 x.fRet.fOwn.a2.fKind, .int .i64 x.fRet.fOwn.a2.fN, .int .i64 x.fRet.fOwn.a3.fKind, .int .i64 x.fRet.fOwn.a3.fN, .vs 13 (List.map eGVar x.fParams), .vs 13 (List.map eGVar x.fLocals), .vs 23 (eLGStmt x.fBody), .int .i64 x.fAt]
structure GClass where
  fName : List UInt8
  fParams : List (List UInt8)
  fSuper : List UInt8
  fAbove : List GOwner
  fFields : List GVar
  fMethods : List GMethod
  fAt : Int
abbrev zGClass : GClass := ({ fName := [], fParams := [], fSuper := [], fAbove := [], fFields := [], fMethods := [], fAt := 0 } : GClass)
def mGClass : GClass → Nat
  | ⟨_, _, _, _, _, z5, _⟩ => 1 + mLGMethod z5
def mLGClass : List GClass → Nat
  | [] => 0
  | x :: l => mGClass x + mLGClass l
abbrev eGClass (x : GClass) : List PV := [.str x.fName, .vs 1 (List.map eS x.fParams), .str x.fSuper, .vs 2 (List.map eGOwner x.fAbove), .vs 13 (List.map eGVar x.fFields), .vs 17 (List.map eGMethod x.fMethods), .int .i64 x.fAt]
structure GFault where
  fErr : Int
  fAt : Int
  deriving DecidableEq
abbrev zGFault : GFault := ({ fErr := 0, fAt := 0 } : GFault)
abbrev eGFault (x : GFault) : List PV := [.int .i64 x.fErr, .int .i64 x.fAt]
structure GFound_method where
  fClass : List UInt8
  fMethod : GMethod
abbrev zGFound_method : GFound_method := ({ fClass := [], fMethod := zGMethod } : GFound_method)
def mGFound_method : GFound_method → Nat
  | ⟨_, z1⟩ => 1 + mGMethod z1
def mLGFound_method : List GFound_method → Nat
  | [] => 0
  | x :: l => mGFound_method x + mLGFound_method l
abbrev eGFound_method (x : GFound_method) : List PV := [.str x.fClass, .str x.fMethod.fName, .bool x.fMethod.fPure, .int .i64 x.fMethod.fRet.fKind, .str x.fMethod.fRet.fClass, .int .i64 x.fMethod.fRet.fN, .int .i64 x.fMethod.fRet.fOwn.a0.fKind, .int .i64 x.fMethod.fRet.fOwn.a0.fN, .int .i64 x.fMethod.fRet.fOwn.a1.fKind, .int .i64 x.fMethod.fRet.fOwn.a1.fN, .int .i64 x.fMethod.fRet.fOwn.a2.fKind, .int .i64 x.fMethod.fRet.fOwn.a2.fN, .int .i64 x.fMethod.fRet.fOwn.a3.fKind, .int .i64 x.fMethod.fRet.fOwn.a3.fN, .vs 13 (List.map eGVar x.fMethod.fParams), .vs 13 (List.map eGVar x.fMethod.fLocals), .vs 23 (eLGStmt x.fMethod.fBody), .int .i64 x.fMethod.fAt]
structure Gheld_method where
  fMethod : GMethod
  fclass : Int
abbrev zGheld_method : Gheld_method := ({ fMethod := zGMethod, fclass := 0 } : Gheld_method)
def mGheld_method : Gheld_method → Nat
  | ⟨z0, _⟩ => 1 + mGMethod z0
def mLGheld_method : List Gheld_method → Nat
  | [] => 0
  | x :: l => mGheld_method x + mLGheld_method l
abbrev eGheld_method (x : Gheld_method) : List PV := [.str x.fMethod.fName, .bool x.fMethod.fPure, .int .i64 x.fMethod.fRet.fKind, .str x.fMethod.fRet.fClass, .int .i64 x.fMethod.fRet.fN, .int .i64 x.fMethod.fRet.fOwn.a0.fKind, .int .i64 x.fMethod.fRet.fOwn.a0.fN, .int .i64 x.fMethod.fRet.fOwn.a1.fKind, .int .i64 x.fMethod.fRet.fOwn.a1.fN, .int .i64 x.fMethod.fRet.fOwn.a2.fKind, .int .i64 x.fMethod.fRet.fOwn.a2.fN, .int .i64 x.fMethod.fRet.fOwn.a3.fKind, .int .i64 x.fMethod.fRet.fOwn.a3.fN, .vs 13 (List.map eGVar x.fMethod.fParams), .vs 13 (List.map eGVar x.fMethod.fLocals), .vs 23 (eLGStmt x.fMethod.fBody), .int .i64 x.fMethod.fAt, .int .i64 x.fclass]
structure GFound_ref17 where
  fClass : List UInt8
  fMethod : GMethod
abbrev zGFound_ref17 : GFound_ref17 := ({ fClass := [], fMethod := zGMethod } : GFound_ref17)
def mGFound_ref17 : GFound_ref17 → Nat
  | ⟨_, z1⟩ => 1 + mGMethod z1
def mLGFound_ref17 : List GFound_ref17 → Nat
  | [] => 0
  | x :: l => mGFound_ref17 x + mLGFound_ref17 l
abbrev eGFound_ref17 (x : GFound_ref17) : List PV := [.str x.fClass, .str x.fMethod.fName, .bool x.fMethod.fPure, .int .i64 x.fMethod.fRet.fKind, .str x.fMethod.fRet.fClass, .int .i64 x.fMethod.fRet.fN, .int .i64 x.fMethod.fRet.fOwn.a0.fKind, .int .i64 x.fMethod.fRet.fOwn.a0.fN, .int .i64 x.fMethod.fRet.fOwn.a1.fKind, .int .i64 x.fMethod.fRet.fOwn.a1.fN, .int .i64 x.fMethod.fRet.fOwn.a2.fKind, .int .i64 x.fMethod.fRet.fOwn.a2.fN, .int .i64 x.fMethod.fRet.fOwn.a3.fKind, .int .i64 x.fMethod.fRet.fOwn.a3.fN, .vs 13 (List.map eGVar x.fMethod.fParams), .vs 13 (List.map eGVar x.fMethod.fLocals), .vs 23 (eLGStmt x.fMethod.fBody), .int .i64 x.fMethod.fAt]
def bGFault (a b : GFault) : Bool := (a.fErr == b.fErr && (a.fAt == b.fAt && true))
def bGType (a b : GType) : Bool := (a.fKind == b.fKind && (a.fClass == b.fClass && (a.fN == b.fN && (a.fOwn.a0.fKind == b.fOwn.a0.fKind && (a.fOwn.a0.fN == b.fOwn.a0.fN && (a.fOwn.a1.fKind == b.fOwn.a1.fKind && (a.fOwn.a1.fN == b.fOwn.a1.fN && (a.fOwn.a2.fKind == b.fOwn.a2.fKind && (a.fOwn.a2.fN == b.fOwn.a2.fN && (a.fOwn.a3.fKind == b.fOwn.a3.fKind && (a.fOwn.a3.fN == b.fOwn.a3.fN && true)))))))))))
def bGVar (a b : GVar) : Bool := (a.fName == b.fName && (a.fType.fKind == b.fType.fKind && (a.fType.fClass == b.fType.fClass && (a.fType.fN == b.fType.fN && (a.fType.fOwn.a0.fKind == b.fType.fOwn.a0.fKind && (a.fType.fOwn.a0.fN == b.fType.fOwn.a0.fN && (a.fType.fOwn.a1.fKind == b.fType.fOwn.a1.fKind && (a.fType.fOwn.a1.fN == b.fType.fOwn.a1.fN && (a.fType.fOwn.a2.fKind == b.fType.fOwn.a2.fKind && (a.fType.fOwn.a2.fN == b.fType.fOwn.a2.fN && (a.fType.fOwn.a3.fKind == b.fType.fOwn.a3.fKind && (a.fType.fOwn.a3.fN == b.fType.fOwn.a3.fN && (a.fAt == b.fAt && true)))))))))))))
def ref10_uniques_L1 (a0 : GMethod) : Nat → Int → Int → Option (Int)
  | 0, _, _ => none
  | n + 1, x10, x11 =>
    if (decide (x11 < (a0.fParams.length : Int))) = true then
      Option.bind (Option.bind (idx a0.fParams x11) fun (y26 : GVar) =>
      if (y26.fType.fOwn.a0.fKind == 6) = true then
        some (w_i64 (x10 + 1))
      else
        some x10 : Option (Int)) fun x29 =>
      ref10_uniques_L1 a0 n x29 (w_i64 (x11 + 1))
    else
      some x10
def ref10_uniques_L2 (a0 : GMethod) : Nat → Int → Int → Option (Int)
  | 0, _, _ => none
  | n + 1, x45, x46 =>
    if (decide (x46 < (a0.fLocals.length : Int))) = true then
      Option.bind (Option.bind (idx a0.fLocals x46) fun (y61 : GVar) =>
      if (y61.fType.fOwn.a0.fKind == 6) = true then
        some (w_i64 (x45 + 1))
      else
        some x45 : Option (Int)) fun x64 =>
      ref10_uniques_L2 a0 n x64 (w_i64 (x46 + 1))
    else
      some x45
def ref10_uniques (a0 : GMethod) : Option Int :=
  Option.bind (ref10_uniques_L1 a0 ((((a0.fParams.length : Int) : Int) - (0)).toNat + 1) 0 0) fun x34 =>
  Option.bind (ref10_uniques_L2 a0 ((((a0.fLocals.length : Int) : Int) - (0)).toNat + 1) x34 0) fun x69 =>
  some x69
def ref10_kids_L1 (a0 : GExpr) (a1 : Int) (ref10_kids_rec : GExpr → Int → Option Bool) : Nat → Int → Option (Ctl (Bool) (Unit))
  | 0, _ => none
  | n + 1, x16 =>
    if (decide (x16 < (a0.fKids.length : Int))) = true then
      Option.bind (idx a0.fKids x16) fun (y33 : GExpr) =>
      Option.bind (ref10_kids_rec y33 (w_i64 (a1 - 1))) fun (y35 : Bool) =>
      if y35 = true then
        some (.stop true)
      else
        ref10_kids_L1 a0 a1 ref10_kids_rec n (w_i64 (x16 + 1))
    else
      some (.next ())
def ref10_kids : Nat → GExpr → Int → Option Bool
  | 0, _, _ => none
  | n + 1, a0, a1 =>
    Option.bind (if (decide (a1 < 0)) = true then
      some true
    else
      some (decide ((a0.fKids.length : Int) > 4)) : Option (Bool)) fun x2 =>
    if x2 = true then
      some true
    else
      Option.bind (ref10_kids_L1 a0 a1 (ref10_kids n) ((((a0.fKids.length : Int) : Int) - (0)).toNat + 1) 0) fun lr39 =>
      Ctl.elim lr39 (fun v => some v) fun _ =>
      some false
def ref10_much_L1 (a0 : GStmt) : Nat → Int → Option (Ctl (Bool) (Unit))
  | 0, _ => none
  | n + 1, x21 =>
    if (decide (x21 < (a0.fArgs.length : Int))) = true then
      Option.bind (idx a0.fArgs x21) fun (y38 : GExpr) =>
      Option.bind (ref10_kids (mGExpr y38 + 1) y38 25) fun (y40 : Bool) =>
      if y40 = true then
        some (.stop true)
      else
        ref10_much_L1 a0 n (w_i64 (x21 + 1))
    else
      some (.next ())
def ref10_much_L2 (a0 : GStmt) (a1 : Int) (ref10_much_rec : GStmt → Int → Option Bool) : Nat → Int → Option (Ctl (Bool) (Unit))
  | 0, _ => none
  | n + 1, x56 =>
    if (decide (x56 < (a0.fBody.length : Int))) = true then
      Option.bind (idx a0.fBody x56) fun (y73 : GStmt) =>
      Option.bind (ref10_much_rec y73 (w_i64 (a1 - 1))) fun (y75 : Bool) =>
      if y75 = true then
        some (.stop true)
      else
        ref10_much_L2 a0 a1 ref10_much_rec n (w_i64 (x56 + 1))
    else
      some (.next ())
def ref10_much_L3 (a0 : GStmt) (a1 : Int) (ref10_much_rec : GStmt → Int → Option Bool) : Nat → Int → Option (Ctl (Bool) (Unit))
  | 0, _ => none
  | n + 1, x91 =>
    if (decide (x91 < (a0.fElse.length : Int))) = true then
      Option.bind (idx a0.fElse x91) fun (y108 : GStmt) =>
      Option.bind (ref10_much_rec y108 (w_i64 (a1 - 1))) fun (y110 : Bool) =>
      if y110 = true then
        some (.stop true)
      else
        ref10_much_L3 a0 a1 ref10_much_rec n (w_i64 (x91 + 1))
    else
      some (.next ())
def ref10_much : Nat → GStmt → Int → Option Bool
  | 0, _, _ => none
  | n + 1, a0, a1 =>
    Option.bind (if (decide (a1 < 0)) = true then
      some true
    else
      if (decide ((a0.fBody.length : Int) > 500)) = true then
        some true
      else
        if (decide ((a0.fElse.length : Int) > 500)) = true then
          some true
        else
          if (decide ((a0.fArgs.length : Int) > 20)) = true then
            some true
          else
            Option.bind (ref10_kids (mGExpr a0.fE + 1) a0.fE 25) fun (y5 : Bool) =>
            some y5 : Option (Bool)) fun x7 =>
    if x7 = true then
      some true
    else
      Option.bind (ref10_much_L1 a0 ((((a0.fArgs.length : Int) : Int) - (0)).toNat + 1) 0) fun lr44 =>
      Ctl.elim lr44 (fun v => some v) fun _ =>
      Option.bind (ref10_much_L2 a0 a1 (ref10_much n) ((((a0.fBody.length : Int) : Int) - (0)).toNat + 1) 0) fun lr79 =>
      Ctl.elim lr79 (fun v => some v) fun _ =>
      Option.bind (ref10_much_L3 a0 a1 (ref10_much n) ((((a0.fElse.length : Int) : Int) - (0)).toNat + 1) 0) fun lr114 =>
      Ctl.elim lr114 (fun v => some v) fun _ =>
      some false
def ref08_Size_L1 (a0 : GStmt) (ref08_Size_rec : GStmt → Option Int) : Nat → Int → Int → Option (Int)
  | 0, _, _ => none
  | n + 1, x10, x11 =>
    if (decide (x11 < (a0.fBody.length : Int))) = true then
      Option.bind (idx a0.fBody x11) fun (y28 : GStmt) =>
      Option.bind (ref08_Size_rec y28) fun (y30 : Int) =>
      ref08_Size_L1 a0 ref08_Size_rec n (w_i64 (x10 + y30)) (w_i64 (x11 + 1))
    else
      some x10
def ref08_Size_L2 (a0 : GStmt) (ref08_Size_rec : GStmt → Option Int) : Nat → Int → Int → Option (Int)
  | 0, _, _ => none
  | n + 1, x45, x46 =>
    if (decide (x46 < (a0.fElse.length : Int))) = true then
      Option.bind (idx a0.fElse x46) fun (y63 : GStmt) =>
      Option.bind (ref08_Size_rec y63) fun (y65 : Int) =>
      ref08_Size_L2 a0 ref08_Size_rec n (w_i64 (x45 + y65)) (w_i64 (x46 + 1))
    else
      some x45
def ref08_Size : Nat → GStmt → Option Int
  | 0, _ => none
  | n + 1, a0 =>
    Option.bind (ref08_Size_L1 a0 (ref08_Size n) ((((a0.fBody.length : Int) : Int) - (0)).toNat + 1) 1 0) fun x34 =>
    Option.bind (ref08_Size_L2 a0 (ref08_Size n) ((((a0.fElse.length : Int) : Int) - (0)).toNat + 1) x34 0) fun x69 =>
    some x69
def ref10_Heavy_L3 (y685 : GMethod) : Nat → Int → Int → Option (Ctl (Bool) (Int))
  | 0, _, _ => none
  | n + 1, x714, x715 =>
    if (decide (x715 < (y685.fBody.length : Int))) = true then
      Option.bind (if (decide (x714 > 500)) = true then
        some true
      else
        Option.bind (idx y685.fBody x715) fun (y738 : GStmt) =>
        Option.bind (ref10_much (mGStmt y738 + 1) y738 25) fun (y740 : Bool) =>
        some y740 : Option (Bool)) fun x742 =>
      if x742 = true then
        some (.stop true)
      else
        Option.bind (idx y685.fBody x715) fun (y750 : GStmt) =>
        Option.bind (ref08_Size (mGStmt y750 + 1) y750) fun (y752 : Int) =>
        ref10_Heavy_L3 y685 n (w_i64 (x714 + y752)) (w_i64 (x715 + 1))
    else
      some (.next x714)
def ref10_Heavy_L2 (y514 : GClass) : Nat → Int → Int → Option (Ctl (Bool) (Int))
  | 0, _, _ => none
  | n + 1, x601, x602 =>
    if (decide (x602 < (y514.fMethods.length : Int))) = true then
      Option.bind (idx y514.fMethods x602) fun (y685 : GMethod) =>
      Option.bind (if (decide ((y685.fParams.length : Int) > 40)) = true then
        some true
      else
        if (decide ((y685.fLocals.length : Int) > 40)) = true then
          some true
        else
          if (decide ((y685.fBody.length : Int) > 500)) = true then
            some true
          else
            Option.bind (ref10_uniques y685) fun (y690 : Int) =>
            some (decide (y690 > 8)) : Option (Bool)) fun x692 =>
      if x692 = true then
        some (.stop true)
      else
        Option.bind (ref10_Heavy_L3 y685 ((((y685.fBody.length : Int) : Int) - (0)).toNat + 1) x601 0) fun lr757 =>
        Ctl.elim lr757 (fun v => some (.stop v)) fun x756 =>
        ref10_Heavy_L2 y514 n x756 (w_i64 (x602 + 1))
    else
      some (.next x601)
def ref10_Heavy_L1 (a0 : List GClass) : Nat → Int → Int → Option (Ctl (Bool) (Int))
  | 0, _, _ => none
  | n + 1, x254, x255 =>
    if (decide (x255 < (a0.length : Int))) = true then
      Option.bind (idx a0 x255) fun (y514 : GClass) =>
      Option.bind (if (decide ((a0.length : Int) > 30)) = true then
        some true
      else
        if (decide ((y514.fParams.length : Int) > 20)) = true then
          some true
        else
          if (decide ((y514.fAbove.length : Int) > 20)) = true then
            some true
          else
            if (decide ((y514.fFields.length : Int) > 40)) = true then
              some true
            else
              some (decide ((y514.fMethods.length : Int) > 40)) : Option (Bool)) fun x520 =>
      if x520 = true then
        some (.stop true)
      else
        Option.bind (ref10_Heavy_L2 y514 ((((y514.fMethods.length : Int) : Int) - (0)).toNat + 1) x254 0) fun lr762 =>
        Ctl.elim lr762 (fun v => some (.stop v)) fun x761 =>
        ref10_Heavy_L1 a0 n x761 (w_i64 (x255 + 1))
    else
      some (.next x254)
def ref10_Heavy (a0 : List GClass) : Option Bool :=
  Option.bind (ref10_Heavy_L1 a0 ((((a0.length : Int) : Int) - (0)).toNat + 1) 0 0) fun lr767 =>
  Ctl.elim lr767 (fun v => some v) fun x766 =>
  some (decide (x766 > 500))
def above_up (a0 : List GClass) (a1 : List UInt8) : Option ((List GClass) × (List UInt8)) :=
  some (a0, a1)
def slices_IndexFunc_api_Class_L1 (a0 : List GClass) (q1 : GClass → Option Bool) : Nat → Int → Option (Ctl (Int) (Unit))
  | 0, _ => none
  | n + 1, x11 =>
    if (decide (x11 < (a0.length : Int))) = true then
      Option.bind (idx a0 x11) fun (y28 : GClass) =>
      Option.bind (q1 y28) fun (y30 : Bool) =>
      if y30 = true then
        some (.stop x11)
      else
        slices_IndexFunc_api_Class_L1 a0 q1 n (w_i64 (x11 + 1))
    else
      some (.next ())
def slices_IndexFunc_api_Class (a0 : List GClass) (q1 : GClass → Option Bool) : Option Int :=
  Option.bind (slices_IndexFunc_api_Class_L1 a0 q1 ((((a0.length : Int) : Int) - (0)).toNat + 1) 0) fun lr34 =>
  Ctl.elim lr34 (fun v => some v) fun _ =>
  some (-1)
def table_Find_1 (a0 : GClass) (c0 : List UInt8) : Option Bool :=
  some (a0.fName == c0)
def table_Find (a0 : List GClass) (a1 : List UInt8) : Option Int :=
  Option.bind (slices_IndexFunc_api_Class a0 (fun (z1 : GClass) => table_Find_1 z1 a1)) fun (y2 : Int) =>
  some y2
def above_up_1_L1 (c0 : List GClass) (sp : Nat) (rows : List (Int)) : Nat → Nat → (List UInt8) → Int → Option (Ctl (Nat) (Nat))
  | 0, _, _, _ => none
  | n + 1, x19, x20, x21 =>
    if (decide (x21 < (w_i64 ((c0.length : Int) + 1)))) = true then
      Option.bind (table_Find c0 x20) fun (y46 : Int) =>
      Option.bind (if (decide (y46 < 0)) = true then
        some (x19, true)
      else
        Option.bind (yck rows sp x19 y46) fun (u49 : Unit) =>
        some ((x19 + 1), (!(!(x19 == sp)))) : Option (Nat × Bool)) fun (x51, x52) =>
      if x52 = true then
        some (.stop x51)
      else
        Option.bind (idx c0 y46) fun (y58 : GClass) =>
        if (y58.fSuper == []) = true then
          some (.stop x51)
        else
          above_up_1_L1 c0 sp rows n x51 y58.fSuper (w_i64 (x21 + 1))
    else
      some (.next x19)
def above_up_1 (rows : List (Int)) (sp : Nat) (c0 : List GClass) (c1 : List UInt8) : Option Nat :=
  Option.bind (above_up_1_L1 c0 sp rows ((((w_i64 ((c0.length : Int) + 1)) : Int) - (0)).toNat + 1) 0 c1 0) fun lr65 =>
  Ctl.elim lr65 (fun v => some v) fun x64 =>
  some x64
def itR_up_n (p : List GClass) : Nat → List UInt8 → Option (List Int)
  | 0, _ => some []
  | n + 1, name => Option.bind (table_Find p name) fun i =>
    if i < 0 then some [] else
    Option.bind (idx p i) fun c =>
    if c.fSuper == [] then some [i] else
    Option.bind (itR_up_n p n c.fSuper) fun l => some (i :: l)
def itR_up (p : List GClass) (name : List UInt8) : Option (List Int) := if p.length < 9223372036854775806 then itR_up_n p (p.length + 1) name else none
def slices_Index_int_L1 (a0 : List Int) (a1 : Int) : Nat → Int → Option (Ctl (Int) (Unit))
  | 0, _ => none
  | n + 1, x7 =>
    if (decide (x7 < (a0.length : Int))) = true then
      Option.bind (idx a0 x7) fun (y18 : Int) =>
      if (a1 == y18) = true then
        some (.stop x7)
      else
        slices_Index_int_L1 a0 a1 n (w_i64 (x7 + 1))
    else
      some (.next ())
def slices_Index_int (a0 : List Int) (a1 : Int) : Option Int :=
  Option.bind (slices_Index_int_L1 a0 a1 ((((a0.length : Int) : Int) - (0)).toNat + 1) 0) fun lr22 =>
  Ctl.elim lr22 (fun v => some v) fun _ =>
  some (-1)
def slices_Contains_int (a0 : List Int) (a1 : Int) : Option Bool :=
  Option.bind (slices_Index_int a0 a1) fun (y1 : Int) =>
  some (decide (y1 ≥ 0))
def above_Chain_B1  : Int → (List Int) → Option (Ctl (List Int) (List Int))
  | x23, x13 =>
    Option.bind (slices_Contains_int x13 x23) fun (y26 : Bool) =>
    if y26 = true then
      some (.stop x13)
    else
      Option.bind (room ((x13.length : Int) + ([x23].length : Int)) 8) fun (u29 : Unit) =>
      some (.next (x13 ++ [x23]))
def above_Chain (a0 : List GClass) (a1 : List UInt8) : Option (List Int) :=
  Option.bind (above_up a0 a1) fun (y3 : (List GClass) × (List UInt8)) =>
  Option.bind (itR_up y3.1 y3.2) fun (rows33 : List (Int)) =>
  Option.bind (runs above_Chain_B1 rows33 []) fun (lr35 : Ctl (List Int) (List Int)) =>
  Ctl.elim lr35 (fun x32 =>
    some x32) (fun x13 =>
    some x13)
def method_first_1_w (a0 : Gheld_method) (b0 : List UInt8) (b1 : List GClass) (b2 : GFound_method) (b3 : Bool) : Option (Bool × GFound_method × Bool) :=
  if (a0.fMethod.fName == b0) = true then
    Option.bind (idx b1 a0.fclass) fun (y2 : GClass) =>
    some ((!true), ({ ({ zGFound_method with fClass := y2.fName } : GFound_method) with fMethod := a0.fMethod } : GFound_method), true)
  else
    some ((!b3), b2, b3)
def method_walk_w_L2 (b0 : List UInt8) (b1 : List GClass) (y114 : Int) (y118 : GClass) : Nat → GFound_method → Bool → Int → Option (Ctl (GFound_method × Bool) (GFound_method × Bool))
  | 0, _, _, _ => none
  | n + 1, x130, x131, x132 =>
    if (decide (x132 < (y118.fMethods.length : Int))) = true then
      Option.bind (idx y118.fMethods x132) fun (y149 : GMethod) =>
      Option.bind (method_first_1_w ({ fMethod := y149, fclass := y114 } : Gheld_method) b0 b1 x130 x131) fun (y153 : Bool × GFound_method × Bool) =>
      if (!y153.1) = true then
        some (.stop (y153.2.1, y153.2.2))
      else
        method_walk_w_L2 b0 b1 y114 y118 n y153.2.1 y153.2.2 (w_i64 (x132 + 1))
    else
      some (.next (x130, x131))
def method_walk_w_L1 (a0 : List GClass) (a1 : List Int) (b0 : List UInt8) (b1 : List GClass) : Nat → GFound_method → Bool → Int → Option (Ctl (GFound_method × Bool) (GFound_method × Bool))
  | 0, _, _, _ => none
  | n + 1, x53, x54, x55 =>
    if (decide (x55 < (a1.length : Int))) = true then
      Option.bind (idx a1 x55) fun (y114 : Int) =>
      Option.bind (idx a0 y114) fun (y118 : GClass) =>
      Option.bind (method_walk_w_L2 b0 b1 y114 y118 ((((y118.fMethods.length : Int) : Int) - (0)).toNat + 1) x53 x54 0) fun lr161 =>
      Ctl.elim lr161 (fun v => some (.stop v)) fun (x159, x160) =>
      method_walk_w_L1 a0 a1 b0 b1 n x159 x160 (w_i64 (x55 + 1))
    else
      some (.next (x53, x54))
def method_walk_w (a0 : List GClass) (a1 : List Int) (b0 : List UInt8) (b1 : List GClass) (b2 : GFound_method) (b3 : Bool) : Option (GFound_method × Bool) :=
  Option.bind (method_walk_w_L1 a0 a1 b0 b1 ((((a1.length : Int) : Int) - (0)).toNat + 1) b2 b3 0) fun lr168 =>
  Ctl.elim lr168 (fun v => some v) fun (x166, x167) =>
  some (x166, x167)
def method_first (a0 : List GClass) (a1 : List Int) (a2 : List UInt8) : Option (GFound_method × Bool) :=
  Option.bind (method_walk_w a0 a1 a2 a0 ({ fClass := [], fMethod := zGMethod } : GFound_method) false) fun (y3 : GFound_method × Bool) =>
  some (y3.1, y3.2)
def method_Over (a0 : List GClass) (a1 : List UInt8) (a2 : List UInt8) : Option (GFound_method × Bool) :=
  Option.bind (above_Chain a0 a1) fun (y3 : (List Int)) =>
  Option.bind (cutL y3 (if (y3.length : Int) < 1 then (y3.length : Int) else 1) y3.length) fun (y5 : List Int) =>
  Option.bind (method_first a0 y5 a2) fun (y7 : GFound_method × Bool) =>
  some (y7.1, y7.2)
def kind_Unique (a0 : GType) : Option Bool :=
  if (a0.fKind == 2) = true then
    some (a0.fOwn.a0.fKind == 6)
  else
    some false
def method_Alike (a0 : GType) (a1 : GType) : Option Bool :=
  Option.bind (if (a0.fKind != 2) = true then
    some true
  else
    some (a1.fKind != 2) : Option (Bool)) fun x2 =>
  if x2 = true then
    some (a0.fKind == a1.fKind)
  else
    if (a0.fClass == a1.fClass) = true then
      Option.bind (kind_Unique a0) fun (y7 : Bool) =>
      Option.bind (kind_Unique a1) fun (y9 : Bool) =>
      some (y7 == y9)
    else
      some false
def slices_EqualFunc_api_Var_L1 (a0 : List GVar) (a1 : List GVar) (q2 : GVar → GVar → Option Bool) : Nat → Int → Option (Ctl (Bool) (Unit))
  | 0, _ => none
  | n + 1, x16 =>
    if (decide (x16 < (a0.length : Int))) = true then
      Option.bind (idx a0 x16) fun (y35 : GVar) =>
      Option.bind (idx a1 x16) fun (y39 : GVar) =>
      Option.bind (q2 y35 y39) fun (y43 : Bool) =>
      if (!y43) = true then
        some (.stop false)
      else
        slices_EqualFunc_api_Var_L1 a0 a1 q2 n (w_i64 (x16 + 1))
    else
      some (.next ())
def slices_EqualFunc_api_Var (a0 : List GVar) (a1 : List GVar) (q2 : GVar → GVar → Option Bool) : Option Bool :=
  if ((a0.length : Int) != (a1.length : Int)) = true then
    some false
  else
    Option.bind (slices_EqualFunc_api_Var_L1 a0 a1 q2 ((((a0.length : Int) : Int) - (0)).toNat + 1) 0) fun lr47 =>
    Ctl.elim lr47 (fun v => some v) fun _ =>
    some true
def method_fits_1 (a0 : GVar) (a1 : GVar) : Option Bool :=
  Option.bind (method_Alike a0.fType a1.fType) fun (y1 : Bool) =>
  some y1
def method_fits (a0 : GMethod) (a1 : GMethod) : Option Bool :=
  if a0.fPure = true then
    Option.bind (method_Alike a0.fRet a1.fRet) fun (y2 : Bool) =>
    if y2 = true then
      Option.bind (slices_EqualFunc_api_Var a0.fParams a1.fParams (fun (z5 : GVar) (z6 : GVar) => method_fits_1 z5 z6)) fun (y7 : Bool) =>
      some y7
    else
      some false
  else
    if (!a1.fPure) = true then
      Option.bind (method_Alike a0.fRet a1.fRet) fun (y10 : Bool) =>
      if y10 = true then
        Option.bind (slices_EqualFunc_api_Var a0.fParams a1.fParams (fun (z13 : GVar) (z14 : GVar) => method_fits_1 z13 z14)) fun (y15 : Bool) =>
        some y15
      else
        some false
    else
      some false
def method_Check_L2 (a0 : List GClass) (y122 : GClass) : Nat → Int → Option (Ctl (GFault) (Unit))
  | 0, _ => none
  | n + 1, x140 =>
    if (decide (x140 < (y122.fMethods.length : Int))) = true then
      Option.bind (idx y122.fMethods x140) fun (y161 : GMethod) =>
      Option.bind (method_Over a0 y122.fName y161.fName) fun (y165 : GFound_method × Bool) =>
      Option.bind (if y165.2 = true then
        Option.bind (method_fits y161 y165.1.fMethod) fun (y168 : Bool) =>
        some (!y168)
      else
        some false : Option (Bool)) fun x170 =>
      if x170 = true then
        some (.stop ({ fErr := 17, fAt := y161.fAt } : GFault))
      else
        method_Check_L2 a0 y122 n (w_i64 (x140 + 1))
    else
      some (.next ())
def method_Check_L1 (a0 : List GClass) : Nat → Int → Option (Ctl (GFault) (Unit))
  | 0, _ => none
  | n + 1, x59 =>
    if (decide (x59 < (a0.length : Int))) = true then
      Option.bind (idx a0 x59) fun (y122 : GClass) =>
      Option.bind (method_Check_L2 a0 y122 ((((y122.fMethods.length : Int) : Int) - (0)).toNat + 1) 0) fun lr175 =>
      Ctl.elim lr175 (fun v => some (.stop v)) fun _ =>
      method_Check_L1 a0 n (w_i64 (x59 + 1))
    else
      some (.next ())
def method_Check (a0 : List GClass) : Option GFault :=
  Option.bind (method_Check_L1 a0 ((((a0.length : Int) : Int) - (0)).toNat + 1) 0) fun lr178 =>
  Ctl.elim lr178 (fun v => some v) fun _ =>
  some ({ fErr := 0, fAt := 0 } : GFault)
def law17_awake  : Option Bool :=
  Option.bind (method_Check [({ fName := [65], fParams := [], fSuper := [], fAbove := [], fFields := [], fMethods := [({ fName := [109], fPure := false, fRet := zGType, fParams := [({ fName := [120], fType := ({ fKind := 1, fClass := [], fN := 0, fOwn := (⟨zGOwner, zGOwner, zGOwner, zGOwner⟩ : A4 GOwner) } : GType), fAt := 0 } : GVar)], fLocals := [], fBody := [], fAt := 0 } : GMethod)], fAt := 0 } : GClass), ({ fName := [66], fParams := [], fSuper := [65], fAbove := [], fFields := [], fMethods := [({ fName := [109], fPure := false, fRet := zGType, fParams := [], fLocals := [], fBody := [], fAt := 40 } : GMethod)], fAt := 0 } : GClass)]) fun (y1 : GFault) =>
  if (bGFault y1 ({ fErr := 17, fAt := 40 } : GFault)) = true then
    Option.bind (cutL [({ fName := [65], fParams := [], fSuper := [], fAbove := [], fFields := [], fMethods := [({ fName := [109], fPure := false, fRet := zGType, fParams := [({ fName := [120], fType := ({ fKind := 1, fClass := [], fN := 0, fOwn := (⟨zGOwner, zGOwner, zGOwner, zGOwner⟩ : A4 GOwner) } : GType), fAt := 0 } : GVar)], fLocals := [], fBody := [], fAt := 0 } : GMethod)], fAt := 0 } : GClass), ({ fName := [66], fParams := [], fSuper := [65], fAbove := [], fFields := [], fMethods := [({ fName := [109], fPure := false, fRet := zGType, fParams := [], fLocals := [], fBody := [], fAt := 40 } : GMethod)], fAt := 0 } : GClass)] 0 1) fun (y4 : List GClass) =>
    Option.bind (method_Check y4) fun (y6 : GFault) =>
    some (bGFault y6 ({ fErr := 0, fAt := 0 } : GFault))
  else
    some false
def method_Find (a0 : List GClass) (a1 : List UInt8) (a2 : List UInt8) : Option (GFound_method × Bool) :=
  Option.bind (above_Chain a0 a1) fun (y1 : (List Int)) =>
  Option.bind (method_first a0 y1 a2) fun (y3 : GFound_method × Bool) =>
  some (y3.1, y3.2)
def ref13_Find_L1 (a0 : List GClass) (a1 : List UInt8) : Nat → Int → Option (Ctl (Int) (Unit))
  | 0, _ => none
  | n + 1, x7 =>
    if (decide (x7 < (a0.length : Int))) = true then
      Option.bind (idx a0 x7) fun (y18 : GClass) =>
      if (y18.fName == a1) = true then
        some (.stop x7)
      else
        ref13_Find_L1 a0 a1 n (w_i64 (x7 + 1))
    else
      some (.next ())
def ref13_Find (a0 : List GClass) (a1 : List UInt8) : Option Int :=
  Option.bind (ref13_Find_L1 a0 a1 ((((a0.length : Int) : Int) - (0)).toNat + 1) 0) fun lr22 =>
  Ctl.elim lr22 (fun v => some v) fun _ =>
  some (-1)
def ref14_has_L1 (a0 : List Int) (a1 : Int) : Nat → Int → Option (Ctl (Bool) (Unit))
  | 0, _ => none
  | n + 1, x7 =>
    if (decide (x7 < (a0.length : Int))) = true then
      Option.bind (idx a0 x7) fun (y18 : Int) =>
      if (y18 == a1) = true then
        some (.stop true)
      else
        ref14_has_L1 a0 a1 n (w_i64 (x7 + 1))
    else
      some (.next ())
def ref14_has (a0 : List Int) (a1 : Int) : Option Bool :=
  Option.bind (ref14_has_L1 a0 a1 ((((a0.length : Int) : Int) - (0)).toNat + 1) 0) fun lr22 =>
  Ctl.elim lr22 (fun v => some v) fun _ =>
  some false
def ref14_Chain_L1 (a0 : List GClass) : Nat → (List Int) → Int → Option (Ctl ((List Int)) ((List Int)))
  | 0, _, _ => none
  | n + 1, x25, x26 =>
    Option.bind (if (decide (x26 ≥ 0)) = true then
      Option.bind (ref14_has x25 x26) fun (y50 : Bool) =>
      some (!y50)
    else
      some false : Option (Bool)) fun x52 =>
    if x52 = true then
      Option.bind (room ((x25.length : Int) + ([x26].length : Int)) 8) fun (u58 : Unit) =>
      Option.bind (idx a0 x26) fun (y62 : GClass) =>
      if (y62.fSuper == []) = true then
        some (.stop (x25 ++ [x26]))
      else
        Option.bind (idx a0 x26) fun (y65 : GClass) =>
        Option.bind (ref13_Find a0 y65.fSuper) fun (y67 : Int) =>
        ref14_Chain_L1 a0 n (x25 ++ [x26]) y67
    else
      some (.next x25)
def ref14_Chain (a0 : List GClass) (a1 : List UInt8) : Option (List Int) :=
  Option.bind (ref13_Find a0 a1) fun (y3 : Int) =>
  Option.bind (ref14_Chain_L1 a0 (a0.length + 2) [] y3) fun lr72 =>
  Ctl.elim lr72 (fun v => some v) fun x71 =>
  some x71
def ref17_own_L1 (a0 : GClass) (a1 : List UInt8) : Nat → Int → Option (Ctl (GFound_ref17 × Bool) (Unit))
  | 0, _ => none
  | n + 1, x9 =>
    if (decide (x9 < (a0.fMethods.length : Int))) = true then
      Option.bind (idx a0.fMethods x9) fun (y22 : GMethod) =>
      if (y22.fName == a1) = true then
        Option.bind (idx a0.fMethods x9) fun (y25 : GMethod) =>
        some (.stop (({ fClass := a0.fName, fMethod := y25 } : GFound_ref17), true))
      else
        ref17_own_L1 a0 a1 n (w_i64 (x9 + 1))
    else
      some (.next ())
def ref17_own (a0 : GClass) (a1 : List UInt8) : Option (GFound_ref17 × Bool) :=
  Option.bind (ref17_own_L1 a0 a1 ((((a0.fMethods.length : Int) : Int) - (0)).toNat + 1) 0) fun lr28 =>
  Ctl.elim lr28 (fun v => some v) fun _ =>
  some (({ fClass := [], fMethod := zGMethod } : GFound_ref17), false)
def ref17_among_L1 (a0 : List GClass) (a1 : List Int) (a2 : List UInt8) : Nat → Int → Option (Ctl (GFound_ref17 × Bool) (Unit))
  | 0, _ => none
  | n + 1, x15 =>
    if (decide (x15 < (a1.length : Int))) = true then
      Option.bind (idx a1 x15) fun (y38 : Int) =>
      Option.bind (idx a0 y38) fun (y40 : GClass) =>
      Option.bind (ref17_own y40 a2) fun (y42 : GFound_ref17 × Bool) =>
      if y42.2 = true then
        some (.stop (y42.1, true))
      else
        ref17_among_L1 a0 a1 a2 n (w_i64 (x15 + 1))
    else
      some (.next ())
def ref17_among (a0 : List GClass) (a1 : List Int) (a2 : List UInt8) : Option (GFound_ref17 × Bool) :=
  Option.bind (ref17_among_L1 a0 a1 a2 ((((a1.length : Int) : Int) - (0)).toNat + 1) 0) fun lr46 =>
  Ctl.elim lr46 (fun v => some v) fun _ =>
  some (({ fClass := [], fMethod := zGMethod } : GFound_ref17), false)
def ref17_Find (a0 : List GClass) (a1 : List UInt8) (a2 : List UInt8) : Option (GFound_ref17 × Bool) :=
  Option.bind (ref14_Chain a0 a1) fun (y1 : (List Int)) =>
  Option.bind (ref17_among a0 y1 a2) fun (y3 : GFound_ref17 × Bool) =>
  some (y3.1, y3.2)
def ref17_Over (a0 : List GClass) (a1 : List UInt8) (a2 : List UInt8) : Option (GFound_ref17 × Bool) :=
  Option.bind (ref14_Chain a0 a1) fun (y3 : (List Int)) =>
  if ((y3.length : Int) == 0) = true then
    some (({ fClass := [], fMethod := zGMethod } : GFound_ref17), false)
  else
    Option.bind (cutL y3 1 y3.length) fun (y6 : List Int) =>
    Option.bind (ref17_among a0 y6 a2) fun (y8 : GFound_ref17 × Bool) =>
    some (y8.1, y8.2)
def ref06_Same_L1 (a0 : GExpr) (a1 : GExpr) (ref06_Same_rec : GExpr → GExpr → Option Bool) : Nat → Int → Option (Ctl (Bool) (Unit))
  | 0, _ => none
  | n + 1, x22 =>
    if (decide (x22 < (a0.fKids.length : Int))) = true then
      Option.bind (idx a0.fKids x22) fun (y45 : GExpr) =>
      Option.bind (idx a1.fKids x22) fun (y47 : GExpr) =>
      Option.bind (ref06_Same_rec y45 y47) fun (y49 : Bool) =>
      if (!y49) = true then
        some (.stop false)
      else
        ref06_Same_L1 a0 a1 ref06_Same_rec n (w_i64 (x22 + 1))
    else
      some (.next ())
def ref06_Same : Nat → GExpr → GExpr → Option Bool
  | 0, _, _ => none
  | n + 1, a0, a1 =>
    Option.bind (if (a0.fKind != a1.fKind) = true then
      some true
    else
      if (a0.fNum != a1.fNum) = true then
        some true
      else
        if (!(a0.fName == a1.fName)) = true then
          some true
        else
          some ((a0.fKids.length : Int) != (a1.fKids.length : Int)) : Option (Bool)) fun x4 =>
    if x4 = true then
      some false
    else
      Option.bind (ref06_Same_L1 a0 a1 (ref06_Same n) ((((a0.fKids.length : Int) : Int) - (0)).toNat + 1) 0) fun lr53 =>
      Ctl.elim lr53 (fun v => some v) fun _ =>
      some true
def ref08_List_L1 (a0 : List GStmt) (a1 : List GStmt) (ref08_Same_rec : GStmt → GStmt → Option Bool) : Nat → Int → Option (Ctl (Bool) (Unit))
  | 0, _ => none
  | n + 1, x16 =>
    if (decide (x16 < (a0.length : Int))) = true then
      Option.bind (idx a0 x16) fun (y39 : GStmt) =>
      Option.bind (idx a1 x16) fun (y41 : GStmt) =>
      Option.bind (ref08_Same_rec y39 y41) fun (y43 : Bool) =>
      if (!y43) = true then
        some (.stop false)
      else
        ref08_List_L1 a0 a1 ref08_Same_rec n (w_i64 (x16 + 1))
    else
      some (.next ())
def ref08_Same_L1 (a0 : GStmt) (a1 : GStmt) : Nat → Int → Option (Ctl (Bool) (Unit))
  | 0, _ => none
  | n + 1, x27 =>
    if (decide (x27 < (a0.fArgs.length : Int))) = true then
      Option.bind (idx a0.fArgs x27) fun (y50 : GExpr) =>
      Option.bind (idx a1.fArgs x27) fun (y52 : GExpr) =>
      Option.bind (ref06_Same (mGExpr y50 + mGExpr y52 + 1) y50 y52) fun (y54 : Bool) =>
      if (!y54) = true then
        some (.stop false)
      else
        ref08_Same_L1 a0 a1 n (w_i64 (x27 + 1))
    else
      some (.next ())
mutual
def ref08_List : Nat → (List GStmt) → (List GStmt) → Option Bool
  | 0, _, _ => none
  | n + 1, a0, a1 =>
    if ((a0.length : Int) != (a1.length : Int)) = true then
      some false
    else
      Option.bind (ref08_List_L1 a0 a1 (ref08_Same n) ((((a0.length : Int) : Int) - (0)).toNat + 1) 0) fun lr47 =>
      Ctl.elim lr47 (fun v => some v) fun _ =>
      some true
def ref08_Same : Nat → GStmt → GStmt → Option Bool
  | 0, _, _ => none
  | n + 1, a0, a1 =>
    Option.bind (if (a0.fKind != a1.fKind) = true then
      some true
    else
      if (!(a0.fX == a1.fX)) = true then
        some true
      else
        if (!(a0.fY == a1.fY)) = true then
          some true
        else
          if (!(a0.fName == a1.fName)) = true then
            some true
          else
            if (!(bGType a0.fType a1.fType)) = true then
              some true
            else
              Option.bind (ref06_Same (mGExpr a0.fE + mGExpr a1.fE + 1) a0.fE a1.fE) fun (y6 : Bool) =>
              if (!y6) = true then
                some true
              else
                some ((a0.fArgs.length : Int) != (a1.fArgs.length : Int)) : Option (Bool)) fun x9 =>
    if x9 = true then
      some false
    else
      Option.bind (ref08_Same_L1 a0 a1 ((((a0.fArgs.length : Int) : Int) - (0)).toNat + 1) 0) fun lr58 =>
      Ctl.elim lr58 (fun v => some v) fun _ =>
      Option.bind ((ref08_List n) a0.fBody a1.fBody) fun (y60 : Bool) =>
      if y60 = true then
        Option.bind ((ref08_List n) a0.fElse a1.fElse) fun (y63 : Bool) =>
        some y63
      else
        some false
end

def law17_same_L1 (a0 : GFound_method) (a1 : GFound_ref17) : Nat → Int → Option (Ctl (Bool) (Unit))
  | 0, _ => none
  | n + 1, x24 =>
    if (decide (x24 < (a0.fMethod.fParams.length : Int))) = true then
      Option.bind (idx a0.fMethod.fParams x24) fun (y41 : GVar) =>
      Option.bind (idx a1.fMethod.fParams x24) fun (y43 : GVar) =>
      if (!(bGVar y41 y43)) = true then
        some (.stop false)
      else
        law17_same_L1 a0 a1 n (w_i64 (x24 + 1))
    else
      some (.next ())
def law17_same_L2 (a0 : GFound_method) (a1 : GFound_ref17) : Nat → Int → Option (Ctl (Bool) (Unit))
  | 0, _ => none
  | n + 1, x59 =>
    if (decide (x59 < (a0.fMethod.fLocals.length : Int))) = true then
      Option.bind (idx a0.fMethod.fLocals x59) fun (y76 : GVar) =>
      Option.bind (idx a1.fMethod.fLocals x59) fun (y78 : GVar) =>
      if (!(bGVar y76 y78)) = true then
        some (.stop false)
      else
        law17_same_L2 a0 a1 n (w_i64 (x59 + 1))
    else
      some (.next ())
def law17_same (a0 : GFound_method) (a1 : GFound_ref17) : Option Bool :=
  Option.bind (if (!(a0.fClass == a1.fClass)) = true then
    some true
  else
    if (!(a0.fMethod.fName == a1.fMethod.fName)) = true then
      some true
    else
      if (!(a0.fMethod.fPure == a1.fMethod.fPure)) = true then
        some true
      else
        if (!(bGType a0.fMethod.fRet a1.fMethod.fRet)) = true then
          some true
        else
          if (a0.fMethod.fAt != a1.fMethod.fAt) = true then
            some true
          else
            if ((a0.fMethod.fParams.length : Int) != (a1.fMethod.fParams.length : Int)) = true then
              some true
            else
              if ((a0.fMethod.fLocals.length : Int) != (a1.fMethod.fLocals.length : Int)) = true then
                some true
              else
                Option.bind (ref08_List (mLGStmt a0.fMethod.fBody + mLGStmt a1.fMethod.fBody + 1) a0.fMethod.fBody a1.fMethod.fBody) fun (y8 : Bool) =>
                some (!y8) : Option (Bool)) fun x10 =>
  if x10 = true then
    some false
  else
    Option.bind (law17_same_L1 a0 a1 ((((a0.fMethod.fParams.length : Int) : Int) - (0)).toNat + 1) 0) fun lr47 =>
    Ctl.elim lr47 (fun v => some v) fun _ =>
    Option.bind (law17_same_L2 a0 a1 ((((a0.fMethod.fLocals.length : Int) : Int) - (0)).toNat + 1) 0) fun lr82 =>
    Ctl.elim lr82 (fun v => some v) fun _ =>
    some true
def law17_MethodFind (a0 : List GClass) (a1 : List UInt8) (a2 : List UInt8) : Option Bool :=
  Option.bind (ref10_Heavy a0) fun (y3 : Bool) =>
  if y3 = true then
    Option.bind law17_awake fun (y6 : Bool) =>
    some y6
  else
    Option.bind (method_Find a0 a1 a2) fun (y10 : GFound_method × Bool) =>
    Option.bind (ref17_Find a0 a1 a2) fun (y14 : GFound_ref17 × Bool) =>
    Option.bind (method_Over a0 a1 a2) fun (y18 : GFound_method × Bool) =>
    Option.bind (ref17_Over a0 a1 a2) fun (y22 : GFound_ref17 × Bool) =>
    Option.bind (law17_same y10.1 y14.1) fun (y24 : Bool) =>
    if y24 = true then
      if (y10.2 == y14.2) = true then
        Option.bind (law17_same y18.1 y22.1) fun (y28 : Bool) =>
        if y28 = true then
          if (y18.2 == y22.2) = true then
            Option.bind law17_awake fun (y32 : Bool) =>
            some y32
          else
            some false
        else
          some false
      else
        some false
    else
      some false
end
end Go.Proofs.Ytahieoaggbmicaa
