/- A part of the proof that the law DotDeep gives true for every input. -/
import Derived.Test.YthhdlpggmmfaiaaGreatDotDeepA4
import Derived.Test.YthhdlpggmmfaiaaGreatDotDeepX
/- The types and the plain functions. -/
namespace Go.Proofs.YthhdlpggmmfaiaaGreat
open Go.RowKit Go.Abs
noncomputable section
structure GOwner where
 fKind : Int
 fN : Int
 deriving DecidableEq
abbrev zGOwner : GOwner := ({ fKind := 0, fN := 0 } : GOwner)
abbrev eGOwner (x : GOwner) : List PV := [.int .i64 x.fKind, .int .i64 x.fN]
structure GType where
 fKind : Int
 fClass : List UInt8
 fN : Int
 fOwn : A4 GOwner
 deriving DecidableEq
abbrev zGType : GType := ({ fKind := 0, fClass := [], fN := 0, fOwn := (⟨zGOwner, zGOwner, zGOwner, zGOwner⟩ : A4 GOwner) } : GType)
abbrev eGType (x : GType) : List PV := [.int .i64 x.fKind, .str x.fClass, .int .i64 x.fN, .int .i64 x.fOwn.a0.fKind, .int .i64 x.fOwn.a0.fN, .int .i64 x.fOwn.a1.fKind, .int .i64 x.fOwn.a1.fN, .int .i64 x.fOwn.a2.fKind, .int .i64 x.fOwn.a2.fN, .int .i64 x.fOwn.a3.fKind, .int .i64 x.fOwn.a3.fN]
structure GVar where
 fName : List UInt8
 fType : GType
 fAt : Int
 deriving DecidableEq
abbrev zGVar : GVar := ({ fName := [], fType := zGType, fAt := 0 } : GVar)
abbrev eGVar (x : GVar) : List PV := [.str x.fName, .int .i64 x.fType.fKind, .str x.fType.fClass, .int .i64 x.fType.fN, .int .i64 x.fType.fOwn.a0.fKind, .int .i64 x.fType.fOwn.a0.fN, .int .i64 x.fType.fOwn.a1.fKind, .int .i64 x.fType.fOwn.a1.fN, .int .i64 x.fType.fOwn.a2.fKind, .int .i64 x.fType.fOwn.a2.fN, .int .i64 x.fType.fOwn.a3.fKind, .int .i64 x.fType.fOwn.a3.fN, .int .i64 x.fAt]
structure GExpr where
 fKind : Int
 fNum : Int
 fName : List UInt8
 fKids : List GExpr
abbrev zGExpr : GExpr := ({ fKind := 0, fNum := 0, fName := [], fKids := [] } : GExpr)
mutual
def rGExpr : GExpr → List PV
 | ⟨z0, z1, z2, z3⟩ => [.int .i64 z0, .int .i64 z1, .str z2, .vs 4 (eLGExpr z3)]
def eLGExpr : List GExpr → List (List PV)
 | [] => []
 | x :: l => rGExpr x :: eLGExpr l
end
abbrev eGExpr (x : GExpr) : List PV := [.int .i64 x.fKind, .int .i64 x.fNum, .str x.fName, .vs 4 (eLGExpr x.fKids)]
theorem rGExpr_eq (x : GExpr) : rGExpr x = eGExpr x := by cases x; simp only [rGExpr]
theorem eLGExpr_map : ∀ l : List GExpr, eLGExpr l = l.map eGExpr
 | [] => by simp only [eLGExpr, List.map_nil]
 | x :: l => by simp only [eLGExpr, List.map_cons, rGExpr_eq, eLGExpr_map l]
mutual
def mGExpr : GExpr → Nat
 | ⟨_, _, _, z3⟩ => 1 + mLGExpr z3
def mLGExpr : List GExpr → Nat
 | [] => 0
 | x :: l => mGExpr x + mLGExpr l
end
structure GStmt where
 fKind : Int
 fX : List UInt8
 fY : List UInt8
 fName : List UInt8
 fType : GType
 fE : GExpr
 fArgs : List GExpr
 fBody : List GStmt
 fElse : List GStmt
 fAt : Int
abbrev zGStmt : GStmt := ({ fKind := 0, fX := [], fY := [], fName := [], fType := zGType, fE := zGExpr, fArgs := [], fBody := [], fElse := [], fAt := 0 } : GStmt)
mutual
def rGStmt : GStmt → List PV
 | ⟨z0, z1, z2, z3, z4, z5, z6, z7, z8, z9⟩ => [.int .i64 z0, .str z1, .str z2, .str z3, .int .i64 z4.fKind, .str z4.fClass, .int .i64 z4.fN, .int .i64 z4.fOwn.a0.fKind, .int .i64 z4.fOwn.a0.fN, .int .i64 z4.fOwn.a1.fKind, .int .i64 z4.fOwn.a1.fN, .int .i64 z4.fOwn.a2.fKind, .int .i64 z4.fOwn.a2.fN, .int .i64 z4.fOwn.a3.fKind, .int .i64 z4.fOwn.a3.fN, .int .i64 z5.fKind, .int .i64 z5.fNum, .str z5.fName, .vs 4 (eLGExpr z5.fKids), .vs 4 (eLGExpr z6), .vs 23 (eLGStmt z7), .vs 23 (eLGStmt z8), .int .i64 z9]
def eLGStmt : List GStmt → List (List PV)
 | [] => []
 | x :: l => rGStmt x :: eLGStmt l
end
abbrev eGStmt (x : GStmt) : List PV := [.int .i64 x.fKind, .str x.fX, .str x.fY, .str x.fName, .int .i64 x.fType.fKind, .str x.fType.fClass, .int .i64 x.fType.fN, .int .i64 x.fType.fOwn.a0.fKind, .int .i64 x.fType.fOwn.a0.fN, .int .i64 x.fType.fOwn.a1.fKind, .int .i64 x.fType.fOwn.a1.fN, .int .i64 x.fType.fOwn.a2.fKind, .int .i64 x.fType.fOwn.a2.fN, .int .i64 x.fType.fOwn.a3.fKind, .int .i64 x.fType.fOwn.a3.fN, .int .i64 x.fE.fKind, .int .i64 x.fE.fNum, .str x.fE.fName, .vs 4 (eLGExpr x.fE.fKids), .vs 4 (eLGExpr x.fArgs), .vs 23 (eLGStmt x.fBody), .vs 23 (eLGStmt x.fElse), .int .i64 x.fAt]
theorem rGStmt_eq (x : GStmt) : rGStmt x = eGStmt x := by cases x; simp only [rGStmt]
theorem eLGStmt_map : ∀ l : List GStmt, eLGStmt l = l.map eGStmt
 | [] => by simp only [eLGStmt, List.map_nil]
 | x :: l => by simp only [eLGStmt, List.map_cons, rGStmt_eq, eLGStmt_map l]
mutual
def mGStmt : GStmt → Nat
 | ⟨_, _, _, _, _, z5, z6, z7, z8, _⟩ => 1 + mGExpr z5 + mLGExpr z6 + mLGStmt z7 + mLGStmt z8
def mLGStmt : List GStmt → Nat
 | [] => 0
 | x :: l => mGStmt x + mLGStmt l
end
structure GMethod where
 fName : List UInt8
 fPure : Bool
 fRet : GType
 fParams : List GVar
 fLocals : List GVar
 fBody : List GStmt
 fAt : Int
abbrev zGMethod : GMethod := ({ fName := [], fPure := false, fRet := zGType, fParams := [], fLocals := [], fBody := [], fAt := 0 } : GMethod)
def mGMethod : GMethod → Nat
 | ⟨_, _, _, _, _, z5, _⟩ => 1 + mLGStmt z5
def mLGMethod : List GMethod → Nat
 | [] => 0
 | x :: l => mGMethod x + mLGMethod l
abbrev eGMethod (x : GMethod) : List PV := [.str x.fName, .bool x.fPure, .int .i64 x.fRet.fKind, .str x.fRet.fClass, .int .i64 x.fRet.fN, .int .i64 x.fRet.fOwn.a0.fKind, .int .i64 x.fRet.fOwn.a0.fN, .int .i64 x.fRet.fOwn.a1.fKind, .int .i64 x.fRet.fOwn.a1.fN, .int .i64 x.fRet.fOwn.a2.fKind, .int .i64 x.fRet.fOwn.a2.fN, .int .i64 x.fRet.fOwn.a3.fKind, .int .i64 x.fRet.fOwn.a3.fN, .vs 13 (List.map eGVar x.fParams), .vs 13 (List.map eGVar x.fLocals), .vs 23 (eLGStmt x.fBody), .int .i64 x.fAt]
structure GClass where
 fName : List UInt8
 fParams : List (List UInt8)
 fSuper : List UInt8
 fAbove : List GOwner
 fFields : List GVar
 fMethods : List GMethod
 fAt : Int
abbrev zGClass : GClass := ({ fName := [], fParams := [], fSuper := [], fAbove := [], fFields := [], fMethods := [], fAt := 0 } : GClass)
def mGClass : GClass → Nat
 | ⟨_, _, _, _, _, z5, _⟩ => 1 + mLGMethod z5
def mLGClass : List GClass → Nat
 | [] => 0
 | x :: l => mGClass x + mLGClass l
abbrev eGClass (x : GClass) : List PV := [.str x.fName, .vs 1 (List.map eS x.fParams), .str x.fSuper, .vs 2 (List.map eGOwner x.fAbove), .vs 13 (List.map eGVar x.fFields), .vs 17 (List.map eGMethod x.fMethods), .int .i64 x.fAt]
structure GVal where
 fRef : Bool
 fN : Int
 deriving DecidableEq
abbrev zGVal : GVal := ({ fRef := false, fN := 0 } : GVal)
abbrev eGVal (x : GVal) : List PV := [.bool x.fRef, .int .i64 x.fN]
structure GCell where
 fClass : List UInt8
 fOwn : A4 Int
 fFields : List GVal
 fDead : Bool
 deriving DecidableEq
abbrev zGCell : GCell := ({ fClass := [], fOwn := (⟨0, 0, 0, 0⟩ : A4 Int), fFields := [], fDead := false } : GCell)
abbrev eGCell (x : GCell) : List PV := [.str x.fClass, .int .i64 x.fOwn.a0, .int .i64 x.fOwn.a1, .int .i64 x.fOwn.a2, .int .i64 x.fOwn.a3, .vs 2 (List.map eGVal x.fFields), .bool x.fDead]
structure GFault where
 fErr : Int
 fAt : Int
 deriving DecidableEq
abbrev zGFault : GFault := ({ fErr := 0, fAt := 0 } : GFault)
abbrev eGFault (x : GFault) : List PV := [.int .i64 x.fErr, .int .i64 x.fAt]
structure GToken where
 fKind : Int
 fText : List UInt8
 fAt : Int
 deriving DecidableEq
abbrev zGToken : GToken := ({ fKind := 0, fText := [], fAt := 0 } : GToken)
abbrev eGToken (x : GToken) : List PV := [.int .i64 x.fKind, .str x.fText, .int .i64 x.fAt]
structure GGot_ref09 where
 fC : GClass
 fM : GMethod
 fV : List GVar
 fN : List (List UInt8)
 fNext : Int
 fF : GFault
abbrev zGGot_ref09 : GGot_ref09 := ({ fC := zGClass, fM := zGMethod, fV := [], fN := [], fNext := 0, fF := zGFault } : GGot_ref09)
def mGGot_ref09 : GGot_ref09 → Nat
 | ⟨z0, z1, _, _, _, _⟩ => 1 + mGClass z0 + mGMethod z1
def mLGGot_ref09 : List GGot_ref09 → Nat
 | [] => 0
 | x :: l => mGGot_ref09 x + mLGGot_ref09 l
abbrev eGGot_ref09 (x : GGot_ref09) : List PV := [.str x.fC.fName, .vs 1 (List.map eS x.fC.fParams), .str x.fC.fSuper, .vs 2 (List.map eGOwner x.fC.fAbove), .vs 13 (List.map eGVar x.fC.fFields), .vs 17 (List.map eGMethod x.fC.fMethods), .int .i64 x.fC.fAt, .str x.fM.fName, .bool x.fM.fPure, .int .i64 x.fM.fRet.fKind, .str x.fM.fRet.fClass, .int .i64 x.fM.fRet.fN, .int .i64 x.fM.fRet.fOwn.a0.fKind, .int .i64 x.fM.fRet.fOwn.a0.fN, .int .i64 x.fM.fRet.fOwn.a1.fKind, .int .i64 x.fM.fRet.fOwn.a1.fN, .int .i64 x.fM.fRet.fOwn.a2.fKind, .int .i64 x.fM.fRet.fOwn.a2.fN, .int .i64 x.fM.fRet.fOwn.a3.fKind, .int .i64 x.fM.fRet.fOwn.a3.fN, .vs 13 (List.map eGVar x.fM.fParams), .vs 13 (List.map eGVar x.fM.fLocals), .vs 23 (eLGStmt x.fM.fBody), .int .i64 x.fM.fAt, .vs 13 (List.map eGVar x.fV), .vs 1 (List.map eS x.fN), .int .i64 x.fNext, .int .i64 x.fF.fErr, .int .i64 x.fF.fAt]
structure GGot_ref07 where
 fL : List GOwner
 fT : GType
 fV : GVar
 fNext : Int
 fF : GFault
 deriving DecidableEq
abbrev zGGot_ref07 : GGot_ref07 := ({ fL := [], fT := zGType, fV := zGVar, fNext := 0, fF := zGFault } : GGot_ref07)
abbrev eGGot_ref07 (x : GGot_ref07) : List PV := [.vs 2 (List.map eGOwner x.fL), .int .i64 x.fT.fKind, .str x.fT.fClass, .int .i64 x.fT.fN, .int .i64 x.fT.fOwn.a0.fKind, .int .i64 x.fT.fOwn.a0.fN, .int .i64 x.fT.fOwn.a1.fKind, .int .i64 x.fT.fOwn.a1.fN, .int .i64 x.fT.fOwn.a2.fKind, .int .i64 x.fT.fOwn.a2.fN, .int .i64 x.fT.fOwn.a3.fKind, .int .i64 x.fT.fOwn.a3.fN, .str x.fV.fName, .int .i64 x.fV.fType.fKind, .str x.fV.fType.fClass, .int .i64 x.fV.fType.fN, .int .i64 x.fV.fType.fOwn.a0.fKind, .int .i64 x.fV.fType.fOwn.a0.fN, .int .i64 x.fV.fType.fOwn.a1.fKind, .int .i64 x.fV.fType.fOwn.a1.fN, .int .i64 x.fV.fType.fOwn.a2.fKind, .int .i64 x.fV.fType.fOwn.a2.fN, .int .i64 x.fV.fType.fOwn.a3.fKind, .int .i64 x.fV.fType.fOwn.a3.fN, .int .i64 x.fV.fAt, .int .i64 x.fNext, .int .i64 x.fF.fErr, .int .i64 x.fF.fAt]
structure GSlot_field where
 fClass : List UInt8
 fVar : GVar
 deriving DecidableEq
abbrev zGSlot_field : GSlot_field := ({ fClass := [], fVar := zGVar } : GSlot_field)
abbrev eGSlot_field (x : GSlot_field) : List PV := [.str x.fClass, .str x.fVar.fName, .int .i64 x.fVar.fType.fKind, .str x.fVar.fType.fClass, .int .i64 x.fVar.fType.fN, .int .i64 x.fVar.fType.fOwn.a0.fKind, .int .i64 x.fVar.fType.fOwn.a0.fN, .int .i64 x.fVar.fType.fOwn.a1.fKind, .int .i64 x.fVar.fType.fOwn.a1.fN, .int .i64 x.fVar.fType.fOwn.a2.fKind, .int .i64 x.fVar.fType.fOwn.a2.fN, .int .i64 x.fVar.fType.fOwn.a3.fKind, .int .i64 x.fVar.fType.fOwn.a3.fN, .int .i64 x.fVar.fAt]
def ref10_uniques_L1 (a0 : GMethod) : Nat → Int → Int → Option (Int)
 | 0, _, _ => none
 | n + 1, x10, x11 =>
 if (decide (x11 < (a0.fParams.length : Int))) then
 ((idx a0.fParams x11).bind fun y26 =>
 if (y26.fType.fOwn.a0.fKind == 6) then
 some (w_i64 (x10 + 1))
 else
 some x10 : Option (Int)).bind fun x29 =>
 ref10_uniques_L1 a0 n x29 (w_i64 (x11 + 1))
 else
 some x10
def ref10_uniques_L2 (a0 : GMethod) : Nat → Int → Int → Option (Int)
 | 0, _, _ => none
 | n + 1, x45, x46 =>
 if (decide (x46 < (a0.fLocals.length : Int))) then
 ((idx a0.fLocals x46).bind fun y61 =>
 if (y61.fType.fOwn.a0.fKind == 6) then
 some (w_i64 (x45 + 1))
 else
 some x45 : Option (Int)).bind fun x64 =>
 ref10_uniques_L2 a0 n x64 (w_i64 (x46 + 1))
 else
 some x45
def ref10_uniques (a0 : GMethod) : Option Int :=
 (ref10_uniques_L1 a0 ((a0.fParams.length - 0 : Int).toNat + 1) 0 0).bind fun x34 =>
 (ref10_uniques_L2 a0 ((a0.fLocals.length - 0 : Int).toNat + 1) x34 0).bind fun x69 =>
 some x69
def ref10_kids_L1 (a0 : GExpr) (a1 : Int) (ref10_kids_rec : GExpr → Int → Option Bool) : Nat → Int → Option (Ctl (Bool) (Unit))
 | 0, _ => none
 | n + 1, x16 =>
 if (decide (x16 < (a0.fKids.length : Int))) then
 (idx a0.fKids x16).bind fun y33 =>
 (ref10_kids_rec y33 (w_i64 (a1 - 1))).bind fun y35 =>
 if y35 = true then
 some (.stop true)
 else
 ref10_kids_L1 a0 a1 ref10_kids_rec n (w_i64 (x16 + 1))
 else
 some (.next ())
def ref10_kids : Nat → GExpr → Int → Option Bool
 | 0, _, _ => none
 | n + 1, a0, a1 =>
 (if (decide (a1 < 0)) then
 some true
 else
 some (decide ((a0.fKids.length : Int) > 4)) : Option (Bool)).bind fun x2 =>
 if x2 = true then
 some true
 else
 (ref10_kids_L1 a0 a1 (ref10_kids n) ((a0.fKids.length - 0 : Int).toNat + 1) 0).bind fun lr39 =>
 Ctl.elim lr39 (fun v => some v) fun _ =>
 some false
def ref10_much_L1 (a0 : GStmt) : Nat → Int → Option (Ctl (Bool) (Unit))
 | 0, _ => none
 | n + 1, x21 =>
 if (decide (x21 < (a0.fArgs.length : Int))) then
 (idx a0.fArgs x21).bind fun y38 =>
 (ref10_kids (mGExpr y38 + 1) y38 25).bind fun y40 =>
 if y40 = true then
 some (.stop true)
 else
 ref10_much_L1 a0 n (w_i64 (x21 + 1))
 else
 some (.next ())
def ref10_much_L2 (a0 : GStmt) (a1 : Int) (ref10_much_rec : GStmt → Int → Option Bool) : Nat → Int → Option (Ctl (Bool) (Unit))
 | 0, _ => none
 | n + 1, x56 =>
 if (decide (x56 < (a0.fBody.length : Int))) then
 (idx a0.fBody x56).bind fun y73 =>
 (ref10_much_rec y73 (w_i64 (a1 - 1))).bind fun y75 =>
 if y75 = true then
 some (.stop true)
 else
 ref10_much_L2 a0 a1 ref10_much_rec n (w_i64 (x56 + 1))
 else
 some (.next ())
def ref10_much_L3 (a0 : GStmt) (a1 : Int) (ref10_much_rec : GStmt → Int → Option Bool) : Nat → Int → Option (Ctl (Bool) (Unit))
 | 0, _ => none
 | n + 1, x91 =>
 if (decide (x91 < (a0.fElse.length : Int))) then
 (idx a0.fElse x91).bind fun y108 =>
 (ref10_much_rec y108 (w_i64 (a1 - 1))).bind fun y110 =>
 if y110 = true then
 some (.stop true)
 else
 ref10_much_L3 a0 a1 ref10_much_rec n (w_i64 (x91 + 1))
 else
 some (.next ())
def ref10_much : Nat → GStmt → Int → Option Bool
 | 0, _, _ => none
 | n + 1, a0, a1 =>
 (if (decide (a1 < 0)) then
 some true
 else
 if (decide ((a0.fBody.length : Int) > 500)) then
 some true
 else
 if (decide ((a0.fElse.length : Int) > 500)) then
 some true
 else
 if (decide ((a0.fArgs.length : Int) > 20)) then
 some true
 else
 (ref10_kids (mGExpr a0.fE + 1) a0.fE 25).bind fun y5 =>
 some y5 : Option (Bool)).bind fun x7 =>
 if x7 = true then
 some true
 else
 (ref10_much_L1 a0 ((a0.fArgs.length - 0 : Int).toNat + 1) 0).bind fun lr44 =>
 Ctl.elim lr44 (fun v => some v) fun _ =>
 (ref10_much_L2 a0 a1 (ref10_much n) ((a0.fBody.length - 0 : Int).toNat + 1) 0).bind fun lr79 =>
 Ctl.elim lr79 (fun v => some v) fun _ =>
 (ref10_much_L3 a0 a1 (ref10_much n) ((a0.fElse.length - 0 : Int).toNat + 1) 0).bind fun lr114 =>
 Ctl.elim lr114 (fun v => some v) fun _ =>
 some false
def ref08_Size_L1 (a0 : GStmt) (ref08_Size_rec : GStmt → Option Int) : Nat → Int → Int → Option (Int)
 | 0, _, _ => none
 | n + 1, x10, x11 =>
 if (decide (x11 < (a0.fBody.length : Int))) then
 (idx a0.fBody x11).bind fun y28 =>
 (ref08_Size_rec y28).bind fun (y30 : Int) =>
 ref08_Size_L1 a0 ref08_Size_rec n (w_i64 (x10 + y30)) (w_i64 (x11 + 1))
 else
 some x10
def ref08_Size_L2 (a0 : GStmt) (ref08_Size_rec : GStmt → Option Int) : Nat → Int → Int → Option (Int)
 | 0, _, _ => none
 | n + 1, x45, x46 =>
 if (decide (x46 < (a0.fElse.length : Int))) then
 (idx a0.fElse x46).bind fun y63 =>
 (ref08_Size_rec y63).bind fun (y65 : Int) =>
 ref08_Size_L2 a0 ref08_Size_rec n (w_i64 (x45 + y65)) (w_i64 (x46 + 1))
 else
 some x45
def ref08_Size : Nat → GStmt → Option Int
 | 0, _ => none
 | n + 1, a0 =>
 (ref08_Size_L1 a0 (ref08_Size n) ((a0.fBody.length - 0 : Int).toNat + 1) 1 0).bind fun x34 =>
 (ref08_Size_L2 a0 (ref08_Size n) ((a0.fElse.length - 0 : Int).toNat + 1) x34 0).bind fun x69 =>
 some x69
def ref10_Heavy_L3 (y685 : GMethod) : Nat → Int → Int → Option (Ctl (Bool) (Int))
 | 0, _, _ => none
 | n + 1, x714, x715 =>
 if (decide (x715 < (y685.fBody.length : Int))) then
 (if (decide (x714 > 500)) then
 some true
 else
 (idx y685.fBody x715).bind fun y738 =>
 (ref10_much (mGStmt y738 + 1) y738 25).bind fun y740 =>
 some y740 : Option (Bool)).bind fun x742 =>
 if x742 = true then
 some (.stop true)
 else
 (idx y685.fBody x715).bind fun y750 =>
 (ref08_Size (mGStmt y750 + 1) y750).bind fun (y752 : Int) =>
 ref10_Heavy_L3 y685 n (w_i64 (x714 + y752)) (w_i64 (x715 + 1))
 else
 some (.next x714)
def ref10_Heavy_L2 (y514 : GClass) : Nat → Int → Int → Option (Ctl (Bool) (Int))
 | 0, _, _ => none
 | n + 1, x601, x602 =>
 if (decide (x602 < (y514.fMethods.length : Int))) then
 (idx y514.fMethods x602).bind fun y685 =>
 (if (decide ((y685.fParams.length : Int) > 40)) then
 some true
 else
 if (decide ((y685.fLocals.length : Int) > 40)) then
 some true
 else
 if (decide ((y685.fBody.length : Int) > 500)) then
 some true
 else
 (ref10_uniques y685).bind fun (y690 : Int) =>
 some (decide (y690 > 8)) : Option (Bool)).bind fun x692 =>
 if x692 = true then
 some (.stop true)
 else
 (ref10_Heavy_L3 y685 ((y685.fBody.length - 0 : Int).toNat + 1) x601 0).bind fun lr757 =>
 Ctl.elim lr757 (fun v => some (.stop v)) fun x756 =>
 ref10_Heavy_L2 y514 n x756 (w_i64 (x602 + 1))
 else
 some (.next x601)
def ref10_Heavy_L1 (a0 : List GClass) : Nat → Int → Int → Option (Ctl (Bool) (Int))
 | 0, _, _ => none
 | n + 1, x254, x255 =>
 if (decide (x255 < (a0.length : Int))) then
 (idx a0 x255).bind fun y514 =>
 (if (decide ((a0.length : Int) > 30)) then
 some true
 else
 if (decide ((y514.fParams.length : Int) > 20)) then
 some true
 else
 if (decide ((y514.fAbove.length : Int) > 20)) then
 some true
 else
 if (decide ((y514.fFields.length : Int) > 40)) then
 some true
 else
 some (decide ((y514.fMethods.length : Int) > 40)) : Option (Bool)).bind fun x520 =>
 if x520 = true then
 some (.stop true)
 else
 (ref10_Heavy_L2 y514 ((y514.fMethods.length - 0 : Int).toNat + 1) x254 0).bind fun lr762 =>
 Ctl.elim lr762 (fun v => some (.stop v)) fun x761 =>
 ref10_Heavy_L1 a0 n x761 (w_i64 (x255 + 1))
 else
 some (.next x254)
def ref10_Heavy (a0 : List GClass) : Option Bool :=
 (ref10_Heavy_L1 a0 ((a0.length - 0 : Int).toNat + 1) 0 0).bind fun lr767 =>
 Ctl.elim lr767 (fun v => some v) fun x766 =>
 some (decide (x766 > 500))
def law48_great_L1 (a0 : List GCell) : Nat → Int → Option (Ctl (Bool) (Unit))
 | 0, _ => none
 | n + 1, x12 =>
 if (decide (x12 < (a0.length : Int))) then
 (if (decide ((a0.length : Int) > 12)) then
 some true
 else
 (idx a0 x12).bind fun y27 =>
 if (decide ((y27.fFields.length : Int) > 20)) then
 some true
 else
 (idx a0 x12).bind fun y30 =>
 some (decide ((y30.fClass.length : Int) > 30)) : Option (Bool)).bind fun x32 =>
 if x32 = true then
 some (.stop true)
 else
 law48_great_L1 a0 n (w_i64 (x12 + 1))
 else
 some (.next ())
def law48_great (a0 : List GCell) : Option Bool :=
 (law48_great_L1 a0 ((a0.length - 0 : Int).toNat + 1) 0).bind fun lr37 =>
 Ctl.elim lr37 (fun v => some v) fun _ =>
 some false
def ref36_Up (a0 : List GCell) (a1 : Int) : Option Int :=
 (if (decide (a1 < 1)) then
 some true
 else
 some (decide (a1 > (a0.length : Int))) : Option (Bool)).bind fun x2 =>
 if x2 = true then
 some 0
 else
 (idx a0 (w_i64 (a1 - 1))).bind fun y6 =>
 some y6.fOwn.a0
def ref36_way_L1 (a0 : List GCell) : Nat → Int → (List Int) → Int → Option ((List Int))
 | 0, _, _, _ => none
 | n + 1, x14, x15, x16 =>
 (if (decide (x16 ≤ (w_i64 ((a0.length : Int) + 1)))) then
 some (x14 != 0)
 else
 some false : Option (Bool)).bind fun x34 =>
 if x34 = true then
 (room ((x15.length : Int) + ([x14].length : Int)) 8).bind fun u40 =>
 (ref36_Up a0 x14).bind fun (y44 : Int) =>
 ref36_way_L1 a0 n y44 (x15 ++ [x14]) (w_i64 (x16 + 1))
 else
 some x15
def ref36_way (a0 : List GCell) (a1 : Int) : Option (List Int) :=
 (ref36_way_L1 a0 (a0.length + 3) a1 [] 0).bind fun x49 =>
 some x49
def ref36_Inside_L1 (a2 : Int) (y8 : (List Int)) : Nat → Int → Option (Ctl (Bool) (Unit))
 | 0, _ => none
 | n + 1, x16 =>
 if (decide (x16 < (y8.length : Int))) then
 (idx y8 x16).bind fun (y27 : Int) =>
 if (y27 == a2) then
 some (.stop true)
 else
 ref36_Inside_L1 a2 y8 n (w_i64 (x16 + 1))
 else
 some (.next ())
def ref36_Inside (a0 : List GCell) (a1 : Int) (a2 : Int) : Option Bool :=
 (if (a1 == a2) then
 some true
 else
 some (a2 == 0) : Option (Bool)).bind fun x2 =>
 if x2 = true then
 some true
 else
 (ref36_way a0 a1).bind fun y8 =>
 (ref36_Inside_L1 a2 y8 ((y8.length - 0 : Int).toNat + 1) 0).bind fun lr31 =>
 Ctl.elim lr31 (fun v => some v) fun _ =>
 some false
def ref36_Right_L2 (a0 : List GCell) : Nat → Int → Int → Option (Int)
 | 0, _, _ => none
 | n + 1, x225, x226 =>
 (if (decide (x226 < (a0.length : Int))) then
 some (decide (x225 > 0))
 else
 some false : Option (Bool)).bind fun x239 =>
 if x239 = true then
 (ref36_Up a0 x225).bind fun (y245 : Int) =>
 ref36_Right_L2 a0 n y245 (w_i64 (x226 + 1))
 else
 some x225
def ref36_Right_L3 (a0 : List GCell) (a1 : Int) (y254 : GCell) : Nat → Int → Option (Ctl (Bool) (Unit))
 | 0, _ => none
 | n + 1, x268 =>
 if (decide (x268 < 4)) then
 ((idx (y254.fOwn).l x268).bind fun (y297 : Int) =>
 if (decide (y297 > (a0.length : Int))) then
 some true
 else
 (idx (y254.fOwn).l x268).bind fun (y300 : Int) =>
 if (decide (y300 < 0)) then
 (idx (y254.fOwn).l x268).bind fun (y303 : Int) =>
 if (decide (y303 < (w_i64 (0 - a1)))) then
 some true
 else
 (idx (y254.fOwn).l x268).bind fun (y306 : Int) =>
 (ref36_Inside a0 y254.fOwn.a0 y306).bind fun y308 =>
 some (!y308)
 else
 (idx (y254.fOwn).l x268).bind fun (y310 : Int) =>
 (ref36_Inside a0 y254.fOwn.a0 y310).bind fun y312 =>
 some (!y312) : Option (Bool)).bind fun x314 =>
 if x314 = true then
 some (.stop false)
 else
 ref36_Right_L3 a0 a1 y254 n (w_i64 (x268 + 1))
 else
 some (.next ())
def ref36_Right_L1 (a0 : List GCell) (a1 : Int) : Nat → Int → Option (Ctl (Bool) (Unit))
 | 0, _ => none
 | n + 1, x107 =>
 if (decide (x107 ≤ (a0.length : Int))) then
 (ref36_Right_L2 a0 (a0.length + 1) x107 0).bind fun x249 =>
 if (decide (x249 > 0)) then
 some (.stop false)
 else
 (idx a0 (w_i64 (x107 - 1))).bind fun y254 =>
 (ref36_Right_L3 a0 a1 y254 (((4 : Int) - (0)).toNat + 1) 0).bind fun lr319 =>
 Ctl.elim lr319 (fun v => some (.stop v)) fun _ =>
 ref36_Right_L1 a0 a1 n (w_i64 (x107 + 1))
 else
 some (.next ())
def ref36_Right (a0 : List GCell) (a1 : Int) : Option Bool :=
 (ref36_Right_L1 a0 a1 (a0.length + 1) 1).bind fun lr322 =>
 Ctl.elim lr322 (fun v => some v) fun _ =>
 some true
def law48_bushy (a0 : List GCell) : Option Bool :=
 (ref36_Right a0 4096).bind fun y1 =>
 some (!y1)
def ref02_Blank (a0 : Int) : Option Bool :=
 if (a0 == 9) then
 none
 else
 if (a0 == 10) then
 none
 else
 if (a0 == 13) then
 none
 else
 some (a0 == 32)
def ref03_skip_L1 (a0 : List UInt8) : Nat → Int → Option (Ctl (Int) (Int))
 | 0, _ => none
 | n + 1, x17 =>
 if (decide (x17 < (a0.length : Int))) then
 (idx a0 x17).bind fun (y40 : UInt8) =>
 (ref02_Blank (y40.toNat : Int)).bind fun y42 =>
 if y42 = true then
 ref03_skip_L1 a0 n (w_i64 (x17 + 1))
 else
 (if (decide ((w_i64 (x17 + 1)) ≥ (a0.length : Int))) then
 some ()
 else
 (idx a0 x17).bind fun (y46 : UInt8) =>
 if ((y46.toNat : Int) != 47) then
 some ()
 else
 none : Option (Unit)).bind fun _ =>
 some (.stop x17)
 else
 some (.next x17)
def ref03_skip (a0 : List UInt8) : Option Int :=
 (ref03_skip_L1 a0 (a0.length + 64) 0).bind fun lr53 =>
 Ctl.elim lr53 (fun v => some v) fun x52 =>
 some x52
def ref02_Letter (a0 : Int) : Option Bool :=
 if (decide (a0 ≥ 97)) then
 if (decide (a0 ≤ 122)) then
 some true
 else
 if (decide (a0 ≥ 65)) then
 some (decide (a0 ≤ 90))
 else
 some false
 else
 if (decide (a0 ≥ 65)) then
 some (decide (a0 ≤ 90))
 else
 some false
def ref02_Digit (a0 : Int) : Option Bool :=
 if (decide (a0 ≥ 48)) then
 some (decide (a0 ≤ 57))
 else
 some false
def ref02_Words  : Option (List (List UInt8)) :=
 some [[99, 108, 97, 115, 115], [101, 120, 116, 101, 110, 100, 115], [114, 101, 112], [112, 101, 101, 114], [119, 111, 114, 108, 100], [97, 110, 121], [117, 110, 105, 113, 117, 101], [112, 117, 114, 101], [118, 111, 105, 100], [105, 110, 116], [105, 102], [101, 108, 115, 101], [119, 104, 105, 108, 101], [114, 101, 116, 117, 114, 110], [110, 101, 119], [109, 111, 118, 101], [100, 101, 108, 101, 116, 101], [116, 104, 105, 115], [110, 117, 108, 108], [105, 110, 112, 117, 116], [110, 105, 108], [115, 97, 109, 101], [99, 97, 115, 116]]
def ref02_Find_L1 (a0 : List UInt8) (y3 : (List (List UInt8))) : Nat → Int → Option (Ctl (Int) (Unit))
 | 0, _ => none
 | n + 1, x11 =>
 if (decide (x11 < (y3.length : Int))) then
 (idx y3 x11).bind fun y22 =>
 if (y22 == a0) then
 some (.stop (w_i64 (x11 + 1)))
 else
 ref02_Find_L1 a0 y3 n (w_i64 (x11 + 1))
 else
 some (.next ())
def ref02_Find (a0 : List UInt8) : Option Int :=
 Option.bind ref02_Words fun (y3 : (List (List UInt8))) =>
 (ref02_Find_L1 a0 y3 ((y3.length - 0 : Int).toNat + 1) 0).bind fun lr26 =>
 Ctl.elim lr26 (fun v => some v) fun _ =>
 some 0
def ref03_sign_L1 (a0 : List UInt8) : Nat → Int → Option (Ctl ((List UInt8)) (Unit))
 | 0, _ => none
 | n + 1, x26 =>
 (if (decide (x26 < ([123, 125, 40, 41, 60, 62, 44, 59, 46, 61, 43, 45, 42, 33].length : Int))) then
 some ()
 else
 none : Option (Unit)).bind fun _ =>
 if (!(a0 == [])) then
 (idx [123, 125, 40, 41, 60, 62, 44, 59, 46, 61, 43, 45, 42, 33] x26).bind fun (y51 : UInt8) =>
 (idx a0 0).bind fun (y53 : UInt8) =>
 if ((y51.toNat : Int) == (y53.toNat : Int)) then
 (cutL a0 0 1).bind fun y56 =>
 some (.stop y56)
 else
 ref03_sign_L1 a0 n (w_i64 (x26 + 1))
 else
 some (.next ())
def ref03_sign (a0 : List UInt8) : Option (List UInt8) :=
 (if (decide ((a0.length : Int) > 1)) then
 (cutL a0 0 2).bind fun y2 =>
 if (y2 == [61, 61]) then
 none
 else
 (cutL a0 0 2).bind fun y5 =>
 some (y5 == [38, 38])
 else
 some false : Option (Bool)).bind fun x7 =>
 if x7 = true then
 none
 else
 (ref03_sign_L1 a0 (a0.length + 64) 0).bind fun lr59 =>
 Ctl.elim lr59 (fun v => some v) fun _ =>
 some []
def ref03_one_L1 (a0 : List UInt8) : Nat → Int → Option (Int)
 | 0, _ => none
 | n + 1, x24 =>
 (if (decide (x24 < (a0.length : Int))) then
 (idx a0 x24).bind fun (y41 : UInt8) =>
 (ref02_Letter (y41.toNat : Int)).bind fun y43 =>
 if y43 = true then
 some true
 else
 (idx a0 x24).bind fun (y46 : UInt8) =>
 (ref02_Digit (y46.toNat : Int)).bind fun y48 =>
 some y48
 else
 none : Option (Bool)).bind fun x50 =>
 if x50 = true then
 ref03_one_L1 a0 n (w_i64 (x24 + 1))
 else
 some x24
def ref03_one (a0 : List UInt8) : Option GToken :=
 (idx a0 0).bind fun (y5 : UInt8) =>
 (ref02_Letter (y5.toNat : Int)).bind fun y7 =>
 if y7 = true then
 (ref03_one_L1 a0 (a0.length + 64) 0).bind fun x55 =>
 (cutL a0 0 x55).bind fun y61 =>
 (ref02_Find y61).bind fun (y63 : Int) =>
 if (decide (y63 > 0)) then
 (cutL a0 0 x55).bind fun y66 =>
 some ({ fKind := 3, fText := y66, fAt := 0 } : GToken)
 else
 (cutL a0 0 x55).bind fun y68 =>
 some ({ fKind := 1, fText := y68, fAt := 0 } : GToken)
 else
 (idx a0 0).bind fun (y74 : UInt8) =>
 (ref02_Digit (y74.toNat : Int)).bind fun y76 =>
 if y76 = true then
 none
 else
 (ref03_sign a0).bind fun y81 =>
 if (!(y81 == [])) then
 (ref03_sign a0).bind fun y84 =>
 some ({ fKind := 4, fText := y84, fAt := 0 } : GToken)
 else
 none
def ref02_Number_L1 (a0 : List UInt8) : Nat → Option (Ctl (Int × Bool) (Unit))
 | 0 => none
 | n + 1 =>
 if (decide (0 < (a0.length : Int))) then
 (idx a0 0).bind fun (y33 : UInt8) =>
 (ref02_Digit (y33.toNat : Int)).bind fun y35 =>
 if (!y35) then
 some (.stop (0, false))
 else
 none
 else
 some (.next ())
def ref02_Number (a0 : List UInt8) : Option (Int × Bool) :=
 (if (decide ((a0.length : Int) < 1)) then
 none
 else
 if (decide ((a0.length : Int) > 9)) then
 none
 else
 (idx a0 0).bind fun (y3 : UInt8) =>
 if ((y3.toNat : Int) == 48) then
 none
 else
 some () : Option (Unit)).bind fun _ =>
 (ref02_Number_L1 a0 ((a0.length - 0 : Int).toNat + 1)).bind fun lr38 =>
 Ctl.elim lr38 (fun v => some v) fun _ =>
 some (0, true)
def ref03_Of_L1 (a0 : List UInt8) : Nat → (List GToken) → Int → Option ((List GToken))
 | 0, _, _ => none
 | n + 1, x34, x35 =>
 if (decide (x35 < (a0.length : Int))) then
 (cutL a0 x35 a0.length).bind fun y71 =>
 (ref03_one y71).bind fun y73 =>
 if ((({ y73 with fAt := x35 } : GToken).fKind) == 0) then
 none
 else
 (ref02_Number (({ y73 with fAt := x35 } : GToken).fText)).bind fun y78 =>
 (if ((({ y73 with fAt := x35 } : GToken).fKind) == 1) then
 if (decide (((({ y73 with fAt := x35 } : GToken).fText).length : Int) > 20)) then
 none
 else
 if ((({ y73 with fAt := x35 } : GToken).fKind) == 2) then
 none
 else
 some ()
 else
 if ((({ y73 with fAt := x35 } : GToken).fKind) == 2) then
 none
 else
 some () : Option (Unit)).bind fun _ =>
 (room ((x34.length : Int) + ([({ y73 with fAt := x35 } : GToken)].length : Int)) 32).bind fun u88 =>
 (cutL a0 (w_i64 (x35 + ((({ y73 with fAt := x35 } : GToken).fText).length : Int))) a0.length).bind fun y90 =>
 (ref03_skip y90).bind fun (y92 : Int) =>
 ref03_Of_L1 a0 n (x34 ++ [({ y73 with fAt := x35 } : GToken)]) (w_i64 ((w_i64 (x35 + ((({ y73 with fAt := x35 } : GToken).fText).length : Int))) + y92))
 else
 some x34
def ref03_Of (a0 : List UInt8) : Option ((List GToken) × GFault) :=
 if (decide ((a0.length : Int) > 16384)) then
 none
 else
 (ref03_skip a0).bind fun (y4 : Int) =>
 (ref03_Of_L1 a0 ((((a0.length : Int) : Int) - (y4)).toNat + 1) [] y4).bind fun x96 =>
 (room ((x96.length : Int) + ([({ fKind := 0, fText := [], fAt := (a0.length : Int) } : GToken)].length : Int)) 32).bind fun u98 =>
 some ((x96 ++ [({ fKind := 0, fText := [], fAt := (a0.length : Int) } : GToken)]), ({ fErr := 0, fAt := 0 } : GFault))
def ref06_Tok (a0 : List GToken) (a1 : Int) : Option GToken :=
 (if (decide (a1 ≥ 0)) then
 some ()
 else
 none : Option (Unit)).bind fun _ =>
 if (decide (a1 < (a0.length : Int))) then
 (idx a0 a1).bind fun y5 =>
 some y5
 else
 none
def ref09_tok (a0 : List GToken) (a1 : Int) : Option GToken :=
 (ref06_Tok a0 a1).bind fun y1 =>
 some y1
def ref03_Is (a0 : GToken) (a1 : List UInt8) : Option Bool :=
 if (a0.fKind == 3) then
 some (a0.fText == a1)
 else
 if (a0.fKind == 4) then
 some (a0.fText == a1)
 else
 some false
def ref09_is (a0 : List GToken) (a1 : Int) (a2 : List UInt8) : Option Bool :=
 (ref06_Tok a0 a1).bind fun y1 =>
 (ref03_Is y1 a2).bind fun y3 =>
 some y3
def ref09_Stmts_L2 (a0 : GClass) (x64 : Int) : Nat → Int → Int → Option (Int)
 | 0, _, _ => none
 | n + 1, x147, x148 =>
 (idx a0.fMethods x64).bind fun y170 =>
 if (decide (x148 < (y170.fBody.length : Int))) then
 (idx a0.fMethods x64).bind fun y179 =>
 (idx y179.fBody x148).bind fun y181 =>
 (ref08_Size (mGStmt y181 + 1) y181).bind fun (y183 : Int) =>
 ref09_Stmts_L2 a0 x64 n (w_i64 (x147 + y183)) (w_i64 (x148 + 1))
 else
 some x147
def ref09_Stmts_L1 (a0 : GClass) : Nat → Int → Int → Option (Int)
 | 0, _, _ => none
 | n + 1, x63, x64 =>
 if (decide (x64 < (a0.fMethods.length : Int))) then
 (ref09_Stmts_L2 a0 x64 (Option.getD ((idx a0.fMethods x64).bind fun y189 => some ((y189.fBody.length - 0 : Int).toNat + 1)) 1) x63 0).bind fun x187 =>
 ref09_Stmts_L1 a0 n x187 (w_i64 (x64 + 1))
 else
 some x63
def ref09_Stmts (a0 : GClass) : Option Int :=
 (ref09_Stmts_L1 a0 ((a0.fMethods.length - 0 : Int).toNat + 1) 0 0).bind fun x193 =>
 some x193
def ref07_word_L1 (a0 : GToken) : Nat → Int → Option (Unit)
 | 0, _ => none
 | n + 1, x17 =>
 if (decide (x17 < ([[114, 101, 112], [112, 101, 101, 114], [], [119, 111, 114, 108, 100], [97, 110, 121], [117, 110, 105, 113, 117, 101]].length : Int))) then
 ((idx [[114, 101, 112], [112, 101, 101, 114], [], [119, 111, 114, 108, 100], [97, 110, 121], [117, 110, 105, 113, 117, 101]] x17).bind fun (y40 : List UInt8) =>
 (ref03_Is a0 y40).bind fun y42 =>
 if y42 = true then
 (idx [[114, 101, 112], [112, 101, 101, 114], [], [119, 111, 114, 108, 100], [97, 110, 121], [117, 110, 105, 113, 117, 101]] x17).bind fun (y45 : List UInt8) =>
 some (!(y45 == []))
 else
 some false : Option (Bool)).bind fun x47 =>
 if x47 = true then
 none
 else
 ref07_word_L1 a0 n (w_i64 (x17 + 1))
 else
 some ()
def ref07_word (a0 : GToken) : Option GOwner :=
 (ref07_word_L1 a0 (((([[114, 101, 112], [112, 101, 101, 114], [], [119, 111, 114, 108, 100], [97, 110, 121], [117, 110, 105, 113, 117, 101]].length : Int) : Int) - (0)).toNat + 1) 0).bind fun _ =>
 some ({ fKind := 0, fN := 0 } : GOwner)
def ref07_ahead (a0 : List GToken) (a1 : Int) (a2 : Bool) : Option Bool :=
 (ref06_Tok a0 (w_i64 (a1 + 1))).bind fun y5 =>
 (ref06_Tok a0 (w_i64 (a1 + 2))).bind fun y7 =>
 if (y5.fKind == 1) then
 if (!a2) then
 none
 else
 if (y7.fKind == 1) then
 none
 else
 (ref03_Is y7 [60]).bind fun (y12 : Bool) =>
 if y12 = true then
 none
 else
 (ref03_Is y7 [116, 104, 105, 115]).bind fun (y15 : Bool) =>
 if y15 = true then
 none
 else
 (ref03_Is y7 [110, 117, 108, 108]).bind fun (y18 : Bool) =>
 some y18
 else
 none
def ref07_Parse (a0 : List GToken) (a1 : Int) (a2 : List (List UInt8)) (a3 : Bool) : Option GGot_ref07 :=
 (ref06_Tok a0 a1).bind fun y3 =>
 (ref03_Is y3 [118, 111, 105, 100]).bind fun (y7 : Bool) =>
 if y7 = true then
 none
 else
 (ref03_Is y3 [105, 110, 116]).bind fun (y12 : Bool) =>
 if y12 = true then
 some ({ fL := [], fT := ({ fKind := 1, fClass := [], fN := 0, fOwn := (⟨zGOwner, zGOwner, zGOwner, zGOwner⟩ : A4 GOwner) } : GType), fV := zGVar, fNext := w_i64 (a1 + 1), fF := zGFault } : GGot_ref07)
 else
 (ref07_word y3).bind fun y17 =>
 if (y17.fKind != 0) then
 none
 else
 (if (y3.fKind == 1) then
 (ref07_ahead a0 a1 a3).bind fun y21 =>
 some y21
 else
 none : Option (Bool)).bind fun x23 =>
 if x23 = true then
 none
 else
 (ref06_Tok a0 a1).bind fun y29 =>
 if (y29.fKind != 1) then
 none
 else
 (ref06_Tok a0 (w_i64 (a1 + 1))).bind fun y36 =>
 (ref03_Is y36 [60]).bind fun (y38 : Bool) =>
 if (!y38) then
 some ({ fL := [], fT := ({ ({ ({ fKind := 2, fClass := [], fN := 0, fOwn := (⟨zGOwner, zGOwner, zGOwner, zGOwner⟩ : A4 GOwner) } : GType) with fOwn := ({ ({ fKind := 2, fClass := [], fN := 0, fOwn := (⟨zGOwner, zGOwner, zGOwner, zGOwner⟩ : A4 GOwner) } : GType).fOwn with a0 := ({ fKind := 7, fN := 0 } : GOwner) } : A4 GOwner) } : GType) with fClass := y29.fText } : GType), fV := zGVar, fNext := w_i64 (a1 + 1), fF := zGFault } : GGot_ref07)
 else
 none
def ref09_member (a0 : List GToken) (a1 : Int) (a2_0 : List UInt8) (a2_1 : List (List UInt8)) (a2_2 : List UInt8) (a2_3 : List GOwner) (a2_6 : Int) (a3 : Int) (b0 : List GVar) (b1 : List GMethod) : Option ((List UInt8) × (List (List UInt8)) × (List UInt8) × (List GOwner) × (List GVar) × (List GMethod) × Int × (List UInt8) × Bool × Int × (List UInt8) × Int × Int × Int × Int × Int × Int × Int × Int × Int × (List GVar) × (List GVar) × (List GStmt) × Int × (List GVar) × (List (List UInt8)) × Int × Int × Int) :=
 (ref09_tok a0 a1).bind fun y3 =>
 (ref09_is a0 a1 [112, 117, 114, 101]).bind fun (y7 : Bool) =>
 if y7 = true then
 none
 else
 (ref07_Parse a0 a1 a2_1 true).bind fun y12 =>
 if (y12.fF.fErr != 0) then
 none
 else
 (ref09_tok a0 y12.fNext).bind fun y17 =>
 if (y17.fKind != 1) then
 none
 else
 (ref09_is a0 (w_i64 (y12.fNext + 1)) [40]).bind fun (y22 : Bool) =>
 if y22 = true then
 none
 else
 ((ref09_is a0 (w_i64 (y12.fNext + 1)) [59]).bind fun (y27 : Bool) =>
 if (!y27) then
 none
 else
 some () : Option (Unit)).bind fun _ =>
 if (y12.fT.fKind == 0) then
 none
 else
 if ((b0.length : Int) == 12) then
 none
 else
 (room ((b0.length : Int) + ([({ fName := y17.fText, fType := y12.fT, fAt := y3.fAt } : GVar)].length : Int)) 120).bind fun u36 =>
 some (a2_0, a2_1, a2_2, a2_3, (b0 ++ [({ fName := y17.fText, fType := y12.fT, fAt := y3.fAt } : GVar)]), b1, a2_6, zGGot_ref09.fM.fName, zGGot_ref09.fM.fPure, zGGot_ref09.fM.fRet.fKind, zGGot_ref09.fM.fRet.fClass, zGGot_ref09.fM.fRet.fN, zGGot_ref09.fM.fRet.fOwn.a0.fKind, zGGot_ref09.fM.fRet.fOwn.a0.fN, zGGot_ref09.fM.fRet.fOwn.a1.fKind, zGGot_ref09.fM.fRet.fOwn.a1.fN, zGGot_ref09.fM.fRet.fOwn.a2.fKind, zGGot_ref09.fM.fRet.fOwn.a2.fN, zGGot_ref09.fM.fRet.fOwn.a3.fKind, zGGot_ref09.fM.fRet.fOwn.a3.fN, zGGot_ref09.fM.fParams, zGGot_ref09.fM.fLocals, [], zGGot_ref09.fM.fAt, zGGot_ref09.fV, zGGot_ref09.fN, w_i64 ((w_i64 (y12.fNext + 1)) + 1), zGGot_ref09.fF.fErr, zGGot_ref09.fF.fAt)
def ref09_class_L1 (a0 : List GToken) (a2 : Int) : Nat → Int → (List UInt8) → (List (List UInt8)) → (List UInt8) → (List GOwner) → (List GVar) → (List GMethod) → Int → Option (Int × (List UInt8) × (List (List UInt8)) × (List UInt8) × (List GOwner) × (List GVar) × (List GMethod) × Int)
 | 0, _, _, _, _, _, _, _, _ => none
 | n + 1, x43, x44, x45, x46, x47, x48, x49, x50 =>
 (ref09_is a0 x43 [125]).bind fun (y75 : Bool) =>
 if (!y75) then
 (ref09_Stmts ({ fName := x44, fParams := x45, fSuper := x46, fAbove := x47, fFields := x48, fMethods := x49, fAt := x50 } : GClass)).bind fun (y82 : Int) =>
 (ref09_member a0 x43 x44 x45 x46 x47 x50 (w_i64 (a2 + y82)) x48 x49).bind fun y84 =>
 if (y84.2.2.2.2.2.2.2.2.2.2.2.2.2.2.2.2.2.2.2.2.2.2.2.2.2.2.2.1 != 0) then
 none
 else
 ref09_class_L1 a0 a2 n y84.2.2.2.2.2.2.2.2.2.2.2.2.2.2.2.2.2.2.2.2.2.2.2.2.2.2.1 y84.1 y84.2.1 y84.2.2.1 y84.2.2.2.1 y84.2.2.2.2.1 y84.2.2.2.2.2.1 y84.2.2.2.2.2.2.1
 else
 some (x43, x44, x45, x46, x47, x48, x49, x50)
def ref09_class (a0 : List GToken) (a1 : Int) (a2 : Int) : Option GGot_ref09 :=
 (ref09_tok a0 a1).bind fun y3 =>
 (ref09_tok a0 (w_i64 (a1 + 1))).bind fun y7 =>
 if (y7.fKind != 1) then
 none
 else
 (ref09_tok a0 (w_i64 (a1 + 1))).bind fun y12 =>
 (ref09_is a0 (w_i64 (a1 + 2)) [60]).bind fun (y16 : Bool) =>
 if y16 = true then
 none
 else
 (ref09_is a0 (w_i64 (a1 + 2)) [101, 120, 116, 101, 110, 100, 115]).bind fun (y21 : Bool) =>
 if y21 = true then
 none
 else
 (ref09_is a0 (w_i64 (a1 + 2)) [123]).bind fun (y26 : Bool) =>
 if (!y26) then
 none
 else
 (ref09_class_L1 a0 a2 (a0.length + 64) (w_i64 ((w_i64 (a1 + 2)) + 1)) y12.fText zGClass.fParams zGClass.fSuper zGClass.fAbove [] [] y3.fAt).bind fun (x95, x96, x97, x98, x99, x100, x101, x102) =>
 some ({ fC := ({ fName := x96, fParams := x97, fSuper := x98, fAbove := x99, fFields := x100, fMethods := x101, fAt := x102 } : GClass), fM := zGMethod, fV := [], fN := [], fNext := w_i64 (x95 + 1), fF := zGFault } : GGot_ref09)
def ref09_Of_L1 (y3 : (List GToken) × GFault) : Nat → (List GClass) → Int → Int → Option ((List GClass))
 | 0, _, _, _ => none
 | n + 1, x30, x31, x32 =>
 (ref09_tok y3.1 x31).bind fun y62 =>
 if (y62.fKind != 0) then
 (ref09_is y3.1 x31 [99, 108, 97, 115, 115]).bind fun (y67 : Bool) =>
 if (!y67) then
 none
 else
 if ((x30.length : Int) == 20) then
 none
 else
 (ref09_class y3.1 x31 x32).bind fun y73 =>
 if (y73.fF.fErr != 0) then
 none
 else
 (room ((x30.length : Int) + ([y73.fC].length : Int)) 136).bind fun u78 =>
 (ref09_Stmts y73.fC).bind fun (y82 : Int) =>
 ref09_Of_L1 y3 n (x30 ++ [y73.fC]) y73.fNext (w_i64 (x32 + y82))
 else
 some x30
def ref09_Of (a0 : List UInt8) : Option ((List GClass) × GFault) :=
 (ref03_Of a0).bind fun y3 =>
 if (y3.2.fErr != 0) then
 none
 else
 (ref09_Of_L1 y3 (a0.length + 64) [] 0 0).bind fun x87 =>
 some (x87, ({ fErr := 0, fAt := 0 } : GFault))
def heap_Ask (a0 : List GCell) (a1 : Int) : Option Int :=
 if (a1 == 0) then
 some 2
 else
 (if (decide (a1 < 0)) then
 some true
 else
 some (decide (a1 > (a0.length : Int))) : Option (Bool)).bind fun x3 =>
 if x3 = true then
 some 10
 else
 (idx a0 (w_i64 (a1 - 1))).bind fun y9 =>
 if y9.fDead = true then
 some 7
 else
 some 0
def slices_Reverse_byte_w_L1  : Nat → (List Int) → Int → Int → Option ((List Int))
 | 0, _, _, _ => none
 | n + 1, x18, x19, x20 =>
 if (decide (x19 < x20)) then
 (idx x18 x20).bind fun (y50 : Int) =>
 (idx x18 x19).bind fun (y52 : Int) =>
 (idx x18 x19).bind fun (y54 : Int) =>
 (idx (x18.set (x19 : Int).toNat y50) x20).bind fun (y56 : Int) =>
 slices_Reverse_byte_w_L1 n ((x18.set (x19 : Int).toNat y50).set (x20 : Int).toNat y52) (w_i64 (x19 + 1)) (w_i64 (x20 - 1))
 else
 some x18
def slices_Reverse_byte_w (b0 : List Int) : Option (List Int) :=
 (slices_Reverse_byte_w_L1 (b0.length + 1) b0 0 (w_i64 ((b0.length : Int) - 1))).bind fun x61 =>
 some x61
def word_Digits_L1  : Nat → Int → (List Int) → Option ((List Int))
 | 0, _, _ => none
 | n + 1, x12, x13 =>
 if (decide (x12 ≥ 10)) then
 (room ((x13.length : Int) + ([w_u8 (w_u64 (48 + (Int.tmod (w_u64 (Int.tdiv x12 10)) 10)))].length : Int)) 1).bind fun u20 =>
 word_Digits_L1 n (w_u64 (Int.tdiv x12 10)) (x13 ++ [w_u8 (w_u64 (48 + (Int.tmod (w_u64 (Int.tdiv x12 10)) 10)))])
 else
 some x13
def word_Digits (a0 : Int) : Option (List UInt8) :=
 (if (decide (a0 < 0)) then
 some (w_u64 (0 - (w_u64 a0)))
 else
 some (w_u64 a0) : Option (Int)).bind fun x2 =>
 (room ((([] : List Int).length : Int) + ([w_u8 (w_u64 (48 + (Int.tmod x2 10)))].length : Int)) 1).bind fun u7 =>
 (word_Digits_L1 21 x2 ([] ++ [w_u8 (w_u64 (48 + (Int.tmod x2 10)))])).bind fun x24 =>
 (if (decide (a0 < 0)) then
 (room ((x24.length : Int) + ([45].length : Int)) 1).bind fun (u27 : Unit) =>
 some (x24 ++ [45])
 else
 some x24 : Option ((List Int))).bind fun x29 =>
 (slices_Reverse_byte_w x29).bind fun y32 =>
 some (strL y32)
def above_up (a0 : List GClass) (a1 : List UInt8) : Option ((List GClass) × (List UInt8)) :=
 some (a0, a1)
def slices_IndexFunc_api_Class_L1 (a0 : List GClass) (q1 : GClass → Option Bool) : Nat → Int → Option (Ctl (Int) (Unit))
 | 0, _ => none
 | n + 1, x11 =>
 if (decide (x11 < (a0.length : Int))) then
 (idx a0 x11).bind fun y28 =>
 (q1 y28).bind fun y30 =>
 if y30 = true then
 some (.stop x11)
 else
 slices_IndexFunc_api_Class_L1 a0 q1 n (w_i64 (x11 + 1))
 else
 some (.next ())
def slices_IndexFunc_api_Class (a0 : List GClass) (q1 : GClass → Option Bool) : Option Int :=
 (slices_IndexFunc_api_Class_L1 a0 q1 ((a0.length - 0 : Int).toNat + 1) 0).bind fun lr34 =>
 Ctl.elim lr34 (fun v => some v) fun _ =>
 some (-1)
def table_Find_1 (a0 : GClass) (c0 : List UInt8) : Option Bool :=
 some (a0.fName == c0)
def table_Find (a0 : List GClass) (a1 : List UInt8) : Option Int :=
 (slices_IndexFunc_api_Class a0 (fun (z1 : GClass) => table_Find_1 z1 a1)).bind fun (y2 : Int) =>
 some y2
def above_up_1_L1 (c0 : List GClass) (sp : Nat) (rows : List (Int)) : Nat → Nat → (List UInt8) → Int → Option (Ctl (Nat) (Nat))
 | 0, _, _, _ => none
 | n + 1, x19, x20, x21 =>
 if (decide (x21 < (w_i64 ((c0.length : Int) + 1)))) then
 (table_Find c0 x20).bind fun (y46 : Int) =>
 (if (decide (y46 < 0)) then
 some (x19, true)
 else
 (yck rows sp x19 y46).bind fun u49 =>
 some ((x19 + 1), (!(!(x19 == sp)))) : Option (Nat × Bool)).bind fun (x51, x52) =>
 if x52 = true then
 some (.stop x51)
 else
 (idx c0 y46).bind fun y58 =>
 if (y58.fSuper == []) then
 some (.stop x51)
 else
 above_up_1_L1 c0 sp rows n x51 y58.fSuper (w_i64 (x21 + 1))
 else
 some (.next x19)
def above_up_1 (rows : List (Int)) (sp : Nat) (c0 : List GClass) (c1 : List UInt8) : Option Nat :=
 (above_up_1_L1 c0 sp rows ((((w_i64 ((c0.length : Int) + 1)) : Int) - (0)).toNat + 1) 0 c1 0).bind fun lr65 =>
 Ctl.elim lr65 (fun v => some v) fun x64 =>
 some x64
def itR_up_n (p : List GClass) : Nat → List UInt8 → Option (List Int)
 | 0, _ => some []
 | n + 1, name => (table_Find p name).bind fun i =>
 if i < 0 then some [] else
 (idx p i).bind fun c =>
 if c.fSuper == [] then some [i] else
 (itR_up_n p n c.fSuper).bind fun l => some (i :: l)
def itR_up (p : List GClass) (name : List UInt8) : Option (List Int) := if p.length < 9223372036854775806 then itR_up_n p (p.length + 1) name else none
def slices_Index_int_L1 (a0 : List Int) (a1 : Int) : Nat → Int → Option (Ctl (Int) (Unit))
 | 0, _ => none
 | n + 1, x7 =>
 if (decide (x7 < (a0.length : Int))) then
 (idx a0 x7).bind fun (y18 : Int) =>
 if (a1 == y18) then
 some (.stop x7)
 else
 slices_Index_int_L1 a0 a1 n (w_i64 (x7 + 1))
 else
 some (.next ())
def slices_Index_int (a0 : List Int) (a1 : Int) : Option Int :=
 (slices_Index_int_L1 a0 a1 ((a0.length - 0 : Int).toNat + 1) 0).bind fun lr22 =>
 Ctl.elim lr22 (fun v => some v) fun _ =>
 some (-1)
def slices_Contains_int (a0 : List Int) (a1 : Int) : Option Bool :=
 (slices_Index_int a0 a1).bind fun (y1 : Int) =>
 some (decide (y1 ≥ 0))
def above_Chain_B1  : Int → (List Int) → Option (Ctl (List Int) (List Int))
 | x23, x13 =>
 (slices_Contains_int x13 x23).bind fun y26 =>
 if y26 = true then
 some (.stop x13)
 else
 (room ((x13.length : Int) + ([x23].length : Int)) 8).bind fun u29 =>
 some (.next (x13 ++ [x23]))
def above_Chain (a0 : List GClass) (a1 : List UInt8) : Option (List Int) :=
 (above_up a0 a1).bind fun y3 =>
 (itR_up y3.1 y3.2).bind fun (rows33 : List (Int)) =>
 (runs above_Chain_B1 rows33 []).bind fun (lr35 : Ctl (List Int) (List Int)) =>
 Ctl.elim lr35 (fun x32 =>
 some x32) (fun x13 =>
 some x13)
def slices_Backward_int (a0 : List Int) : Option (List Int) :=
 some a0
def slices_Backward_int_1_L1 (c0 : List Int) (sp : Nat) (rows : List (Int × Int)) : Nat → Nat → Int → Option (Ctl (Nat) (Nat))
 | 0, _, _ => none
 | n + 1, x11, x12 =>
 if (decide (x12 ≥ 0)) then
 (idx c0 x12).bind fun (y30 : Int) =>
 (yck rows sp x11 (x12, y30)).bind fun u32 =>
 if (!(!(x11 == sp))) then
 some (.stop (x11 + 1))
 else
 slices_Backward_int_1_L1 c0 sp rows n (x11 + 1) (w_i64 (x12 - 1))
 else
 some (.next x11)
def slices_Backward_int_1 (rows : List (Int × Int)) (sp : Nat) (c0 : List Int) : Option Nat :=
 (slices_Backward_int_1_L1 c0 sp rows ((((w_i64 ((c0.length : Int) - 1)) : Int) - (0)).toNat + 2) 0 (w_i64 ((c0.length : Int) - 1))).bind fun lr38 =>
 Ctl.elim lr38 (fun v => some v) fun x37 =>
 some x37
def itR_back_n (l : List Int) : Nat → List (Int × Int)
 | 0 => []
 | n + 1 => match l[n]? with
 | some x => ((n : Int), x) :: itR_back_n l n
 | none => []
def itR_back (l : List Int) : Option (List (Int × Int)) := if l.length < 4611686018427387904 then some (itR_back_n l l.length) else none
def field_All_L2 (a0 : List GClass) (x118 : Int) (y121 : GClass) : Nat → (List GSlot_field) → Int → Option ((List GSlot_field))
 | 0, _, _ => none
 | n + 1, x136, x137 =>
 if (decide (x137 < (y121.fFields.length : Int))) then
 (idx y121.fFields x137).bind fun y156 =>
 (idx a0 x118).bind fun y162 =>
 (room ((x136.length : Int) + ([({ fClass := y162.fName, fVar := y156 } : GSlot_field)].length : Int)) 136).bind fun u164 =>
 field_All_L2 a0 x118 y121 n (x136 ++ [({ fClass := y162.fName, fVar := y156 } : GSlot_field)]) (w_i64 (x137 + 1))
 else
 some x136
def field_All_B1 (a0 : List GClass) : Int × Int → (List GSlot_field) → Option (Ctl Unit (List GSlot_field))
 | (x117, x118), x62 =>
 (idx a0 x118).bind fun y121 =>
 (field_All_L2 a0 x118 y121 ((y121.fFields.length - 0 : Int).toNat + 1) x62 0).bind fun x168 =>
 some (.next x168)
def field_All (a0 : List GClass) (a1 : List UInt8) : Option (List GSlot_field) :=
 (above_Chain a0 a1).bind fun y5 =>
 (slices_Backward_int y5).bind fun y7 =>
 (itR_back y7).bind fun (rows171 : List (Int × Int)) =>
 (runs (field_All_B1 a0) rows171 []).bind fun (lr173 : Ctl Unit (List GSlot_field)) =>
 Ctl.elim lr173 (fun _ => none) (fun x62 =>
 some x62)
def dot_value (a0 : GVal) : Option (List UInt8) :=
 (if a0.fRef = true then
 some [64]
 else
 some [] : Option ((List UInt8))).bind fun x2 =>
 (word_Digits a0.fN).bind fun y5 =>
 (room ((x2.length : Int) + (y5.length : Int)) 1).bind fun u7 =>
 some (x2 ++ y5)
def strings_Join (a0 : List (List UInt8)) (a1 : List UInt8) : Option (List UInt8) := joinF a0 a1
def dot_Line_L1 (y8 : GCell) (y20 : (List GSlot_field)) : Nat → (List (List UInt8)) → Int → Option ((List (List UInt8)))
 | 0, _, _ => none
 | n + 1, x49, x50 =>
 if (decide (x50 < (y8.fFields.length : Int))) then
 (idx y8.fFields x50).bind fun y83 =>
 (if (decide (x50 < (y20.length : Int))) then
 (idx y20 x50).bind fun y86 =>
 some y86.fVar.fName
 else
 some [63] : Option ((List UInt8))).bind fun x88 =>
 (room ((x88.length : Int) + ([61].length : Int)) 1).bind fun (u99 : Unit) =>
 (dot_value y83).bind fun y101 =>
 (room (((x88 ++ [61]).length : Int) + (y101.length : Int)) 1).bind fun (u103 : Unit) =>
 (room ((x49.length : Int) + ([((x88 ++ [61]) ++ y101)].length : Int)) 16).bind fun (u105 : Unit) =>
 dot_Line_L1 y8 y20 n (x49 ++ [((x88 ++ [61]) ++ y101)]) (w_i64 (x50 + 1))
 else
 some x49
def dot_Line (a0 : List GClass) (a1 : List GCell) (a2 : Int) : Option (List UInt8) :=
 (heap_Ask a1 a2).bind fun (y3 : Int) =>
 if (y3 != 0) then
 some []
 else
 (idx a1 (w_i64 (a2 - 1))).bind fun y8 =>
 (word_Digits a2).bind fun y14 =>
 (room (([64].length : Int) + (y14.length : Int)) 1).bind fun (u16 : Unit) =>
 (field_All a0 y8.fClass).bind fun y20 =>
 (dot_Line_L1 y8 y20 ((y8.fFields.length - 0 : Int).toNat + 1) [([64] ++ y14), y8.fClass] 0).bind fun x109 =>
 (strings_Join x109 [32]).bind fun (y111 : List UInt8) =>
 some y111
def law48_awake  : Option Bool :=
 (ref09_Of [99, 108, 97, 115, 115, 32, 78, 111, 100, 101, 32, 123, 32, 78, 111, 100, 101, 32, 110, 101, 120, 116, 59, 32, 105, 110, 116, 32, 110, 59, 32, 125]).bind fun (y3 : (List GClass) × GFault) =>
 (dot_Line y3.1 [({ fClass := [], fOwn := (⟨0, 0, 0, 0⟩ : A4 Int), fFields := [], fDead := false } : GCell), ({ fClass := [78, 111, 100, 101], fOwn := (⟨0, 0, 0, 0⟩ : A4 Int), fFields := [({ fRef := true, fN := 3 } : GVal), ({ fRef := false, fN := (-1) } : GVal)], fDead := false } : GCell)] 2).bind fun (y5 : (List UInt8)) =>
 some (y5 == [64, 50, 32, 78, 111, 100, 101, 32, 110, 101, 120, 116, 61, 64, 51, 32, 110, 61, 45, 49])
def heap_Live_L1 (a0 : List GCell) : Nat → (List Int) → Int → Option ((List Int))
 | 0, _, _ => none
 | n + 1, x12, x13 =>
 if (decide (x13 < (a0.length : Int))) then
 ((idx a0 x13).bind fun y30 =>
 if (!y30.fDead) then
 (room ((x12.length : Int) + ([w_i64 (x13 + 1)].length : Int)) 8).bind fun u33 =>
 some (x12 ++ [w_i64 (x13 + 1)])
 else
 some x12 : Option ((List Int))).bind fun x35 =>
 heap_Live_L1 a0 n x35 (w_i64 (x13 + 1))
 else
 some x12
def heap_Live (a0 : List GCell) : Option (List Int) :=
 (heap_Live_L1 a0 ((a0.length - 0 : Int).toNat + 1) [] 0).bind fun x40 =>
 some x40
def strings_Repeat (a0 : List UInt8) (a1 : Int) : Option (List UInt8) := repF a0 a1
def dot_Tree_1_w_L1 (a1 : Int) (b0 : Int → List Int) (b3 : List GClass) (b4 : List GCell) (y4 : List Int) (dot_Tree_1_w_rec : Int → Int → (Int → List Int) → (List Int) → (List GClass) → (List GCell) → Option (List Int)) : Nat → (List Int) → Int → Option ((List Int))
 | 0, _, _ => none
 | n + 1, x35, x36 =>
 if (decide (x36 < (y4.length : Int))) then
 (idx y4 x36).bind fun (y71 : Int) =>
 (strings_Repeat [9] a1).bind fun (y83 : List UInt8) =>
 (dot_Line b3 b4 y71).bind fun y85 =>
 (room ((y83.length : Int) + (y85.length : Int)) 1).bind fun u87 =>
 (room (((y83 ++ y85).length : Int) + ([10].length : Int)) 1).bind fun (u89 : Unit) =>
 (room ((x35.length : Int) + (((y83 ++ y85) ++ [10]).length : Int)) 1).bind fun (u91 : Unit) =>
 (dot_Tree_1_w_rec y71 (w_i64 (a1 + 1)) b0 (x35 ++ bytesL ((y83 ++ y85) ++ [10])) b3 b4).bind fun (y95 : (List Int)) =>
 dot_Tree_1_w_L1 a1 b0 b3 b4 y4 dot_Tree_1_w_rec n y95 (w_i64 (x36 + 1))
 else
 some x35
def dot_Tree_1_w : Nat → Int → Int → (Int → List Int) → (List Int) → (List GClass) → (List GCell) → Option (List Int)
 | 0, _, _, _, _, _, _ => none
 | n + 1, a0, a1, b0, b2, b3, b4 =>
 if (decide (a1 > 50)) then
 some b2
 else
 (mgetG b0 a0).bind fun y4 =>
 (dot_Tree_1_w_L1 a1 b0 b3 b4 y4 (dot_Tree_1_w n) ((y4.length - 0 : Int).toNat + 1) b2 0).bind fun x99 =>
 some x99
def dot_Tree_L1 (a0 : List GClass) (a1 : List GCell) (y5 : (List Int)) : Nat → (List (Int × Int)) → Int → Option ((List (Int × Int)))
 | 0, _, _ => none
 | n + 1, x18, x19 =>
 if (decide (x19 < (y5.length : Int))) then
 (idx y5 x19).bind fun (y36 : Int) =>
 (idx a1 (w_i64 (y36 - 1))).bind fun y40 =>
 (gadd x18 y40.fOwn.a0 y36).bind fun (g42 : List (Int × Int)) =>
 dot_Tree_L1 a0 a1 y5 n g42 (w_i64 (x19 + 1))
 else
 some x18
def dot_Tree_L2 (a0 : List GClass) (a1 : List GCell) (a2 : Int) (x46 : List (Int × Int)) : Nat → (List Int) → Int → Option ((List Int))
 | 0, _, _ => none
 | n + 1, x83, x84 =>
 if (decide (x84 ≤ (if 4096 < a2 then 4096 else a2))) then
 ((mgetG (grpOf x46) (w_i64 (0 - x84))).bind fun y117 =>
 if (decide ((y117.length : Int) > 0)) then
 (word_Digits (w_i64 (0 - x84))).bind fun y128 =>
 (room (([99, 108, 117, 115, 116, 101, 114, 32].length : Int) + (y128.length : Int)) 1).bind fun (u130 : Unit) =>
 (room ((([99, 108, 117, 115, 116, 101, 114, 32] ++ y128).length : Int) + ([10].length : Int)) 1).bind fun (u132 : Unit) =>
 (room ((x83.length : Int) + ((([99, 108, 117, 115, 116, 101, 114, 32] ++ y128) ++ [10]).length : Int)) 1).bind fun (u134 : Unit) =>
 (dot_Tree_1_w ((51 - (1 : Int)).toNat + 1) (w_i64 (0 - x84)) 1 (grpOf x46) (x83 ++ bytesL (([99, 108, 117, 115, 116, 101, 114, 32] ++ y128) ++ [10])) a0 a1).bind fun (y136 : (List Int)) =>
 some y136
 else
 some x83 : Option ((List Int))).bind fun x138 =>
 dot_Tree_L2 a0 a1 a2 x46 n x138 (w_i64 (x84 + 1))
 else
 some x83
def dot_Tree (a0 : List GClass) (a1 : List GCell) (a2 : Int) : Option (List UInt8) :=
 (heap_Live a1).bind fun y5 =>
 (dot_Tree_L1 a0 a1 y5 ((y5.length - 0 : Int).toNat + 1) [] 0).bind fun x46 =>
 (room ((([] : List Int).length : Int) + ([119, 111, 114, 108, 100, 10].length : Int)) 1).bind fun (u50 : Unit) =>
 (dot_Tree_1_w ((51 - (1 : Int)).toNat + 1) 0 1 (grpOf x46) (([] : List Int) ++ bytesL [119, 111, 114, 108, 100, 10]) a0 a1).bind fun (y54 : (List Int)) =>
 (dot_Tree_L2 a0 a1 a2 x46 (a2.toNat + 2) y54 1).bind fun x143 =>
 (strB x143).bind fun y145 =>
 some y145
def law48_lines_L1 (a0 : List UInt8) : Nat → (List (List UInt8)) → (List UInt8) → Int → Option ((List (List UInt8)))
 | 0, _, _, _ => none
 | n + 1, x23, x24, x25 =>
 if (decide (x25 < (a0.length : Int))) then
 ((idx a0 x25).bind fun (y54 : UInt8) =>
 if ((y54.toNat : Int) != 10) then
 (cutL a0 x25 (w_i64 (x25 + 1))).bind fun y61 =>
 (room ((x24.length : Int) + (y61.length : Int)) 1).bind fun u63 =>
 some (x23, (x24 ++ y61))
 else
 (room ((x23.length : Int) + ([x24].length : Int)) 16).bind fun u67 =>
 some ((x23 ++ [x24]), []) : Option ((List (List UInt8)) × (List UInt8))).bind fun (x69, x70) =>
 law48_lines_L1 a0 n x69 x70 (w_i64 (x25 + 1))
 else
 some x23
def law48_lines (a0 : List UInt8) : Option (List (List UInt8)) :=
 (law48_lines_L1 a0 ((a0.length - 0 : Int).toNat + 1) [] [] 0).bind fun x76 =>
 some x76
def law48_tabs_L1 (a0 : List UInt8) : Nat → Int → Option (Int)
 | 0, _ => none
 | n + 1, x8 =>
 (if (decide (x8 < (a0.length : Int))) then
 (idx a0 x8).bind fun (y18 : UInt8) =>
 some ((y18.toNat : Int) == 9)
 else
 some false : Option (Bool)).bind fun x20 =>
 if x20 = true then
 law48_tabs_L1 a0 n (w_i64 (x8 + 1))
 else
 some x8
def law48_tabs (a0 : List UInt8) : Option Int :=
 (law48_tabs_L1 a0 (a0.length + 1) 0).bind fun x25 =>
 some x25
def law48_find_L1 (a0 : List (List UInt8)) (a1 : List UInt8) : Nat → Int → Int → Option (Ctl (Int) (Int))
 | 0, _, _ => none
 | n + 1, x21, x22 =>
 if (decide (x22 < (a0.length : Int))) then
 Ctl.go (obind (idx a0 x22) fun (y54 : List UInt8) =>
 obind (idx a0 x22) fun (y56 : List UInt8) =>
 obind (law48_tabs y56) fun (y58 : Int) =>
 obind (cutL y54 y58 y54.length) fun (y60 : List UInt8) =>
 if (!(y60 == a1)) then
 .next x21
 else
 if (decide (x21 ≥ 0)) then
 .stop (some (.stop (-1)))
 else
 .next x22 : Ctl (Option (Ctl (Int) (Int))) (Int)) fun x64 =>
 law48_find_L1 a0 a1 n x64 (w_i64 (x22 + 1))
 else
 some (.next x21)
def law48_find (a0 : List (List UInt8)) (a1 : List UInt8) : Option Int :=
 (law48_find_L1 a0 a1 ((a0.length - 0 : Int).toNat + 1) (-1) 0).bind fun lr68 =>
 Ctl.elim lr68 (fun v => some v) fun x67 =>
 some x67
def law48_DotDeep_L2 (a1 : List GCell) (x85 : Int) : Nat → Int → Option (Ctl (Bool) (Unit))
 | 0, _ => none
 | n + 1, x174 =>
 (idx a1 x85).bind fun y194 =>
 if (decide (x174 < (y194.fClass.length : Int))) then
 (idx a1 x85).bind fun y201 =>
 (idx y201.fClass x174).bind fun (y203 : UInt8) =>
 if (decide ((y203.toNat : Int) ≤ 32)) then
 Option.bind law48_awake fun (y206 : Bool) =>
 some (.stop y206)
 else
 law48_DotDeep_L2 a1 x85 n (w_i64 (x174 + 1))
 else
 some (.next ())
def law48_DotDeep_L1 (a1 : List GCell) : Nat → Int → Option (Ctl (Bool) (Unit))
 | 0, _ => none
 | n + 1, x85 =>
 if (decide (x85 < (a1.length : Int))) then
 (idx a1 x85).bind fun y153 =>
 if y153.fDead = true then
 Option.bind law48_awake fun (y156 : Bool) =>
 some (.stop y156)
 else
 (law48_DotDeep_L2 a1 x85 (Option.getD ((idx a1 x85).bind fun y211 => some ((y211.fClass.length - 0 : Int).toNat + 1)) 1) 0).bind fun lr209 =>
 Ctl.elim lr209 (fun v => some (.stop v)) fun _ =>
 law48_DotDeep_L1 a1 n (w_i64 (x85 + 1))
 else
 some (.next ())
def law48_DotDeep_L5 (y584 : GVar) : Nat → Int → Option (Ctl (Bool) (Unit))
 | 0, _ => none
 | n + 1, x594 =>
 if (decide (x594 < (y584.fName.length : Int))) then
 (idx y584.fName x594).bind fun (y607 : UInt8) =>
 if (decide ((y607.toNat : Int) ≤ 32)) then
 Option.bind law48_awake fun (y610 : Bool) =>
 some (.stop y610)
 else
 law48_DotDeep_L5 y584 n (w_i64 (x594 + 1))
 else
 some (.next ())
def law48_DotDeep_L4 (a0 : List GClass) (x350 : Int) : Nat → Int → Option (Ctl (Bool) (Unit))
 | 0, _ => none
 | n + 1, x529 =>
 (idx a0 x350).bind fun y575 =>
 if (decide (x529 < (y575.fFields.length : Int))) then
 (idx a0 x350).bind fun y582 =>
 (idx y582.fFields x529).bind fun y584 =>
 (law48_DotDeep_L5 y584 ((y584.fName.length - 0 : Int).toNat + 1) 0).bind fun lr613 =>
 Ctl.elim lr613 (fun v => some (.stop v)) fun _ =>
 law48_DotDeep_L4 a0 x350 n (w_i64 (x529 + 1))
 else
 some (.next ())
def law48_DotDeep_L3 (a0 : List GClass) : Nat → Int → Option (Ctl (Bool) (Unit))
 | 0, _ => none
 | n + 1, x350 =>
 if (decide (x350 < (a0.length : Int))) then
 (law48_DotDeep_L4 a0 x350 (Option.getD ((idx a0 x350).bind fun y618 => some ((y618.fFields.length - 0 : Int).toNat + 1)) 1) 0).bind fun lr616 =>
 Ctl.elim lr616 (fun v => some (.stop v)) fun _ =>
 law48_DotDeep_L3 a0 n (w_i64 (x350 + 1))
 else
 some (.next ())
def law48_DotDeep_L6 (a0 : List GClass) (a1 : List GCell) (y629 : (List (List UInt8))) : Nat → Int → Option (Ctl (Bool) (Unit))
 | 0, _ => none
 | n + 1, x684 =>
 if (decide (x684 ≤ (a1.length : Int))) then
 Ctl.go (obind (dot_Line a0 a1 x684) fun (y737 : (List UInt8)) =>
 obind (law48_find y629 y737) fun (y739 : Int) =>
 obind (idx a1 (w_i64 (x684 - 1))) fun (y743 : GCell) =>
 obind (if (decide (y739 < 1)) then
 some true
 else
 if (decide (y743.fOwn.a0 ≤ 0)) then
 (idx y629 y739).bind fun y747 =>
 (law48_tabs y747).bind fun (y749 : Int) =>
 some (y749 != 1)
 else
 some false : Option (Bool)) fun x751 =>
 if x751 = true then
 .stop (some (.stop false))
 else
 if (decide (y743.fOwn.a0 > 0)) then
 obind (dot_Line a0 a1 y743.fOwn.a0) fun (y760 : (List UInt8)) =>
 obind (law48_find y629 y760) fun (y762 : Int) =>
 obind (if (decide (y762 < 0)) then
 some true
 else
 if (decide (y762 ≥ y739)) then
 some true
 else
 (idx y629 y739).bind fun y766 =>
 (law48_tabs y766).bind fun (y768 : Int) =>
 (idx y629 y762).bind fun y770 =>
 (law48_tabs y770).bind fun (y772 : Int) =>
 some (y768 != (w_i64 (y772 + 1))) : Option (Bool)) fun x774 =>
 if x774 = true then
 .stop (some (.stop false))
 else
 .next ()
 else
 .next () : Ctl (Option (Ctl (Bool) (Unit))) (Unit)) fun _ =>
 law48_DotDeep_L6 a0 a1 y629 n (w_i64 (x684 + 1))
 else
 some (.next ())
def law48_DotDeep (a0 : List GClass) (a1 : List GCell) (a2 : Int) : Option Bool :=
 ((ref10_Heavy a0).bind fun y3 =>
 if y3 = true then
 some true
 else
 (law48_great a1).bind fun y6 =>
 if y6 = true then
 some true
 else
 if (decide (a2 < 0)) then
 some true
 else
 if (decide (a2 > 100)) then
 some true
 else
 (law48_bushy a1).bind fun y11 =>
 if y11 = true then
 some true
 else
 (ref36_Right a1 a2).bind fun y14 =>
 some (!y14) : Option (Bool)).bind fun x16 =>
 if x16 = true then
 Option.bind law48_awake fun (y20 : Bool) =>
 some y20
 else
 (law48_DotDeep_L1 a1 ((a1.length - 0 : Int).toNat + 1) 0).bind fun lr214 =>
 Ctl.elim lr214 (fun v => some v) fun _ =>
 (law48_DotDeep_L3 a0 ((a0.length - 0 : Int).toNat + 1) 0).bind fun lr621 =>
 Ctl.elim lr621 (fun v => some v) fun _ =>
 (dot_Tree a0 a1 a2).bind fun y627 =>
 (law48_lines y627).bind fun y629 =>
 (if ((y629.length : Int) == 0) then
 some true
 else
 (idx y629 0).bind fun y632 =>
 some (!(y632 == [119, 111, 114, 108, 100])) : Option (Bool)).bind fun x634 =>
 if x634 = true then
 some false
 else
 (law48_DotDeep_L6 a0 a1 y629 (a1.length + 1) 1).bind fun lr779 =>
 Ctl.elim lr779 (fun v => some v) fun _ =>
 Option.bind law48_awake fun (y781 : Bool) =>
 some y781
end
end Go.Proofs.YthhdlpggmmfaiaaGreat
