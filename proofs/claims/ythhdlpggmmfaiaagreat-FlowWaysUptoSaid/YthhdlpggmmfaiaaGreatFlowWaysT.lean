/- A part of the proof that the law FlowWays gives true for every input. -/
import Derived.Test.YthhdlpggmmfaiaaGreatProg
import Derived.Test.YthhdlpggmmfaiaaGreatFlowWaysA4
import Derived.Test.YthhdlpggmmfaiaaGreatFlowWaysX
/- The types and the plain functions. -/
namespace Go.Proofs.YthhdlpggmmfaiaaGreat
open Go.RowKit Go.Abs
noncomputable section
structure GOwner where
 fKind : Int
 fN : Int
 deriving DecidableEq
abbrev zGOwner : GOwner := ({ fKind := 0, fN := 0 } : GOwner)
abbrev eGOwner (x : GOwner) : List PV := [.int .i64 x.fKind, .int .i64 x.fN]
structure GType where
 fKind : Int
 fClass : List UInt8
 fN : Int
 fOwn : A4 GOwner
 deriving DecidableEq
abbrev zGType : GType := ({ fKind := 0, fClass := [], fN := 0, fOwn := (⟨zGOwner, zGOwner, zGOwner, zGOwner⟩ : A4 GOwner) } : GType)
abbrev eGType (x : GType) : List PV := [.int .i64 x.fKind, .str x.fClass, .int .i64 x.fN, .int .i64 x.fOwn.a0.fKind, .int .i64 x.fOwn.a0.fN, .int .i64 x.fOwn.a1.fKind, .int .i64 x.fOwn.a1.fN, .int .i64 x.fOwn.a2.fKind, .int .i64 x.fOwn.a2.fN, .int .i64 x.fOwn.a3.fKind, .int .i64 x.fOwn.a3.fN]
structure GVar where
 fName : List UInt8
 fType : GType
 fAt : Int
 deriving DecidableEq
abbrev zGVar : GVar := ({ fName := [], fType := zGType, fAt := 0 } : GVar)
abbrev eGVar (x : GVar) : List PV := [.str x.fName, .int .i64 x.fType.fKind, .str x.fType.fClass, .int .i64 x.fType.fN, .int .i64 x.fType.fOwn.a0.fKind, .int .i64 x.fType.fOwn.a0.fN, .int .i64 x.fType.fOwn.a1.fKind, .int .i64 x.fType.fOwn.a1.fN, .int .i64 x.fType.fOwn.a2.fKind, .int .i64 x.fType.fOwn.a2.fN, .int .i64 x.fType.fOwn.a3.fKind, .int .i64 x.fType.fOwn.a3.fN, .int .i64 x.fAt]
structure GExpr where
 fKind : Int
 fNum : Int
 fName : List UInt8
 fKids : List GExpr
abbrev zGExpr : GExpr := ({ fKind := 0, fNum := 0, fName := [], fKids := [] } : GExpr)
mutual
def rGExpr : GExpr → List PV
 | ⟨z0, z1, z2, z3⟩ => [.int .i64 z0, .int .i64 z1, .str z2, .vs 4 (eLGExpr z3)]
def eLGExpr : List GExpr → List (List PV)
 | [] => []
 | x :: l => rGExpr x :: eLGExpr l
end
abbrev eGExpr (x : GExpr) : List PV := [.int .i64 x.fKind, .int .i64 x.fNum, .str x.fName, .vs 4 (eLGExpr x.fKids)]
theorem rGExpr_eq (x : GExpr) : rGExpr x = eGExpr x := by cases x; simp only [rGExpr]
theorem eLGExpr_map : ∀ l : List GExpr, eLGExpr l = l.map eGExpr
 | [] => by simp only [eLGExpr, List.map_nil]
 | x :: l => by simp only [eLGExpr, List.map_cons, rGExpr_eq, eLGExpr_map l]
mutual
def mGExpr : GExpr → Nat
 | ⟨_, _, _, z3⟩ => 1 + mLGExpr z3
def mLGExpr : List GExpr → Nat
 | [] => 0
 | x :: l => mGExpr x + mLGExpr l
end
structure GStmt where
 fKind : Int
 fX : List UInt8
 fY : List UInt8
 fName : List UInt8
 fType : GType
 fE : GExpr
 fArgs : List GExpr
 fBody : List GStmt
 fElse : List GStmt
 fAt : Int
abbrev zGStmt : GStmt := ({ fKind := 0, fX := [], fY := [], fName := [], fType := zGType, fE := zGExpr, fArgs := [], fBody := [], fElse := [], fAt := 0 } : GStmt)
mutual
def rGStmt : GStmt → List PV
 | ⟨z0, z1, z2, z3, z4, z5, z6, z7, z8, z9⟩ => [.int .i64 z0, .str z1, .str z2, .str z3, .int .i64 z4.fKind, .str z4.fClass, .int .i64 z4.fN, .int .i64 z4.fOwn.a0.fKind, .int .i64 z4.fOwn.a0.fN, .int .i64 z4.fOwn.a1.fKind, .int .i64 z4.fOwn.a1.fN, .int .i64 z4.fOwn.a2.fKind, .int .i64 z4.fOwn.a2.fN, .int .i64 z4.fOwn.a3.fKind, .int .i64 z4.fOwn.a3.fN, .int .i64 z5.fKind, .int .i64 z5.fNum, .str z5.fName, .vs 4 (eLGExpr z5.fKids), .vs 4 (eLGExpr z6), .vs 23 (eLGStmt z7), .vs 23 (eLGStmt z8), .int .i64 z9]
def eLGStmt : List GStmt → List (List PV)
 | [] => []
 | x :: l => rGStmt x :: eLGStmt l
end
abbrev eGStmt (x : GStmt) : List PV := [.int .i64 x.fKind, .str x.fX, .str x.fY, .str x.fName, .int .i64 x.fType.fKind, .str x.fType.fClass, .int .i64 x.fType.fN, .int .i64 x.fType.fOwn.a0.fKind, .int .i64 x.fType.fOwn.a0.fN, .int .i64 x.fType.fOwn.a1.fKind, .int .i64 x.fType.fOwn.a1.fN, .int .i64 x.fType.fOwn.a2.fKind, .int .i64 x.fType.fOwn.a2.fN, .int .i64 x.fType.fOwn.a3.fKind, .int .i64 x.fType.fOwn.a3.fN, .int .i64 x.fE.fKind, .int .i64 x.fE.fNum, .str x.fE.fName, .vs 4 (eLGExpr x.fE.fKids), .vs 4 (eLGExpr x.fArgs), .vs 23 (eLGStmt x.fBody), .vs 23 (eLGStmt x.fElse), .int .i64 x.fAt]
theorem rGStmt_eq (x : GStmt) : rGStmt x = eGStmt x := by cases x; simp only [rGStmt]
theorem eLGStmt_map : ∀ l : List GStmt, eLGStmt l = l.map eGStmt
 | [] => by simp only [eLGStmt, List.map_nil]
 | x :: l => by simp only [eLGStmt, List.map_cons, rGStmt_eq, eLGStmt_map l]
mutual
def mGStmt : GStmt → Nat
 | ⟨_, _, _, _, _, z5, z6, z7, z8, _⟩ => 1 + mGExpr z5 + mLGExpr z6 + mLGStmt z7 + mLGStmt z8
def mLGStmt : List GStmt → Nat
 | [] => 0
 | x :: l => mGStmt x + mLGStmt l
end
structure GMethod where
 fName : List UInt8
 fPure : Bool
 fRet : GType
 fParams : List GVar
 fLocals : List GVar
 fBody : List GStmt
 fAt : Int
abbrev zGMethod : GMethod := ({ fName := [], fPure := false, fRet := zGType, fParams := [], fLocals := [], fBody := [], fAt := 0 } : GMethod)
def mGMethod : GMethod → Nat
 | ⟨_, _, _, _, _, z5, _⟩ => 1 + mLGStmt z5
def mLGMethod : List GMethod → Nat
 | [] => 0
 | x :: l => mGMethod x + mLGMethod l
abbrev eGMethod (x : GMethod) : List PV := [.str x.fName, .bool x.fPure, .int .i64 x.fRet.fKind, .str x.fRet.fClass, .int .i64 x.fRet.fN, .int .i64 x.fRet.fOwn.a0.fKind, .int .i64 x.fRet.fOwn.a0.fN, .int .i64 x.fRet.fOwn.a1.fKind, .int .i64 x.fRet.fOwn.a1.fN, .int .i64 x.fRet.fOwn.a2.fKind, .int .i64 x.fRet.fOwn.a2.fN, .int .i64 x.fRet.fOwn.a3.fKind, .int .i64 x.fRet.fOwn.a3.fN, .vs 13 (List.map eGVar x.fParams), .vs 13 (List.map eGVar x.fLocals), .vs 23 (eLGStmt x.fBody), .int .i64 x.fAt]
structure GClass where
 fName : List UInt8
 fParams : List (List UInt8)
 fSuper : List UInt8
 fAbove : List GOwner
 fFields : List GVar
 fMethods : List GMethod
 fAt : Int
abbrev zGClass : GClass := ({ fName := [], fParams := [], fSuper := [], fAbove := [], fFields := [], fMethods := [], fAt := 0 } : GClass)
def mGClass : GClass → Nat
 | ⟨_, _, _, _, _, z5, _⟩ => 1 + mLGMethod z5
def mLGClass : List GClass → Nat
 | [] => 0
 | x :: l => mGClass x + mLGClass l
abbrev eGClass (x : GClass) : List PV := [.str x.fName, .vs 1 (List.map eS x.fParams), .str x.fSuper, .vs 2 (List.map eGOwner x.fAbove), .vs 13 (List.map eGVar x.fFields), .vs 17 (List.map eGMethod x.fMethods), .int .i64 x.fAt]
structure GFault where
 fErr : Int
 fAt : Int
 deriving DecidableEq
abbrev zGFault : GFault := ({ fErr := 0, fAt := 0 } : GFault)
abbrev eGFault (x : GFault) : List PV := [.int .i64 x.fErr, .int .i64 x.fAt]
structure GToken where
 fKind : Int
 fText : List UInt8
 fAt : Int
 deriving DecidableEq
abbrev zGToken : GToken := ({ fKind := 0, fText := [], fAt := 0 } : GToken)
abbrev eGToken (x : GToken) : List PV := [.int .i64 x.fKind, .str x.fText, .int .i64 x.fAt]
structure GGot_ref09 where
 fC : GClass
 fM : GMethod
 fV : List GVar
 fN : List (List UInt8)
 fNext : Int
 fF : GFault
abbrev zGGot_ref09 : GGot_ref09 := ({ fC := zGClass, fM := zGMethod, fV := [], fN := [], fNext := 0, fF := zGFault } : GGot_ref09)
def mGGot_ref09 : GGot_ref09 → Nat
 | ⟨z0, z1, _, _, _, _⟩ => 1 + mGClass z0 + mGMethod z1
def mLGGot_ref09 : List GGot_ref09 → Nat
 | [] => 0
 | x :: l => mGGot_ref09 x + mLGGot_ref09 l
abbrev eGGot_ref09 (x : GGot_ref09) : List PV := [.str x.fC.fName, .vs 1 (List.map eS x.fC.fParams), .str x.fC.fSuper, .vs 2 (List.map eGOwner x.fC.fAbove), .vs 13 (List.map eGVar x.fC.fFields), .vs 17 (List.map eGMethod x.fC.fMethods), .int .i64 x.fC.fAt, .str x.fM.fName, .bool x.fM.fPure, .int .i64 x.fM.fRet.fKind, .str x.fM.fRet.fClass, .int .i64 x.fM.fRet.fN, .int .i64 x.fM.fRet.fOwn.a0.fKind, .int .i64 x.fM.fRet.fOwn.a0.fN, .int .i64 x.fM.fRet.fOwn.a1.fKind, .int .i64 x.fM.fRet.fOwn.a1.fN, .int .i64 x.fM.fRet.fOwn.a2.fKind, .int .i64 x.fM.fRet.fOwn.a2.fN, .int .i64 x.fM.fRet.fOwn.a3.fKind, .int .i64 x.fM.fRet.fOwn.a3.fN, .vs 13 (List.map eGVar x.fM.fParams), .vs 13 (List.map eGVar x.fM.fLocals), .vs 23 (eLGStmt x.fM.fBody), .int .i64 x.fM.fAt, .vs 13 (List.map eGVar x.fV), .vs 1 (List.map eS x.fN), .int .i64 x.fNext, .int .i64 x.fF.fErr, .int .i64 x.fF.fAt]
structure GGot_ref07 where
 fL : List GOwner
 fT : GType
 fV : GVar
 fNext : Int
 fF : GFault
 deriving DecidableEq
abbrev zGGot_ref07 : GGot_ref07 := ({ fL := [], fT := zGType, fV := zGVar, fNext := 0, fF := zGFault } : GGot_ref07)
abbrev eGGot_ref07 (x : GGot_ref07) : List PV := [.vs 2 (List.map eGOwner x.fL), .int .i64 x.fT.fKind, .str x.fT.fClass, .int .i64 x.fT.fN, .int .i64 x.fT.fOwn.a0.fKind, .int .i64 x.fT.fOwn.a0.fN, .int .i64 x.fT.fOwn.a1.fKind, .int .i64 x.fT.fOwn.a1.fN, .int .i64 x.fT.fOwn.a2.fKind, .int .i64 x.fT.fOwn.a2.fN, .int .i64 x.fT.fOwn.a3.fKind, .int .i64 x.fT.fOwn.a3.fN, .str x.fV.fName, .int .i64 x.fV.fType.fKind, .str x.fV.fType.fClass, .int .i64 x.fV.fType.fN, .int .i64 x.fV.fType.fOwn.a0.fKind, .int .i64 x.fV.fType.fOwn.a0.fN, .int .i64 x.fV.fType.fOwn.a1.fKind, .int .i64 x.fV.fType.fOwn.a1.fN, .int .i64 x.fV.fType.fOwn.a2.fKind, .int .i64 x.fV.fType.fOwn.a2.fN, .int .i64 x.fV.fType.fOwn.a3.fKind, .int .i64 x.fV.fType.fOwn.a3.fN, .int .i64 x.fV.fAt, .int .i64 x.fNext, .int .i64 x.fF.fErr, .int .i64 x.fF.fAt]
structure GGot_ref08 where
 fS : GStmt
 fL : List GStmt
 fA : List GExpr
 fNext : Int
 fF : GFault
abbrev zGGot_ref08 : GGot_ref08 := ({ fS := zGStmt, fL := [], fA := [], fNext := 0, fF := zGFault } : GGot_ref08)
def mGGot_ref08 : GGot_ref08 → Nat
 | ⟨z0, z1, z2, _, _⟩ => 1 + mGStmt z0 + mLGStmt z1 + mLGExpr z2
def mLGGot_ref08 : List GGot_ref08 → Nat
 | [] => 0
 | x :: l => mGGot_ref08 x + mLGGot_ref08 l
abbrev eGGot_ref08 (x : GGot_ref08) : List PV := [.int .i64 x.fS.fKind, .str x.fS.fX, .str x.fS.fY, .str x.fS.fName, .int .i64 x.fS.fType.fKind, .str x.fS.fType.fClass, .int .i64 x.fS.fType.fN, .int .i64 x.fS.fType.fOwn.a0.fKind, .int .i64 x.fS.fType.fOwn.a0.fN, .int .i64 x.fS.fType.fOwn.a1.fKind, .int .i64 x.fS.fType.fOwn.a1.fN, .int .i64 x.fS.fType.fOwn.a2.fKind, .int .i64 x.fS.fType.fOwn.a2.fN, .int .i64 x.fS.fType.fOwn.a3.fKind, .int .i64 x.fS.fType.fOwn.a3.fN, .int .i64 x.fS.fE.fKind, .int .i64 x.fS.fE.fNum, .str x.fS.fE.fName, .vs 4 (eLGExpr x.fS.fE.fKids), .vs 4 (eLGExpr x.fS.fArgs), .vs 23 (eLGStmt x.fS.fBody), .vs 23 (eLGStmt x.fS.fElse), .int .i64 x.fS.fAt, .vs 23 (eLGStmt x.fL), .vs 4 (eLGExpr x.fA), .int .i64 x.fNext, .int .i64 x.fF.fErr, .int .i64 x.fF.fAt]
structure GGot_ref06 where
 fE : GExpr
 fNext : Int
 fF : GFault
abbrev zGGot_ref06 : GGot_ref06 := ({ fE := zGExpr, fNext := 0, fF := zGFault } : GGot_ref06)
def mGGot_ref06 : GGot_ref06 → Nat
 | ⟨z0, _, _⟩ => 1 + mGExpr z0
def mLGGot_ref06 : List GGot_ref06 → Nat
 | [] => 0
 | x :: l => mGGot_ref06 x + mLGGot_ref06 l
abbrev eGGot_ref06 (x : GGot_ref06) : List PV := [.int .i64 x.fE.fKind, .int .i64 x.fE.fNum, .str x.fE.fName, .vs 4 (eLGExpr x.fE.fKids), .int .i64 x.fNext, .int .i64 x.fF.fErr, .int .i64 x.fF.fAt]
structure Gwalker_flow where
 fp : List GClass
 fc : GClass
 fm : GMethod
 fvars : List (List UInt8)
 fat : List UInt8 → Option Int
 fbad : Int
 fn : Int
abbrev zGwalker_flow : Gwalker_flow := ({ fp := [], fc := zGClass, fm := zGMethod, fvars := [], fat := (fun _ => none), fbad := 0, fn := 0 } : Gwalker_flow)
def mGwalker_flow : Gwalker_flow → Nat
 | ⟨z0, z1, z2, _, _, _, _⟩ => 1 + mLGClass z0 + mGClass z1 + mGMethod z2
def mLGwalker_flow : List Gwalker_flow → Nat
 | [] => 0
 | x :: l => mGwalker_flow x + mLGwalker_flow l
abbrev eGwalker_flow (x : Gwalker_flow) : List PV := [.vs 7 (List.map eGClass x.fp), .str x.fc.fName, .vs 1 (List.map eS x.fc.fParams), .str x.fc.fSuper, .vs 2 (List.map eGOwner x.fc.fAbove), .vs 13 (List.map eGVar x.fc.fFields), .vs 17 (List.map eGMethod x.fc.fMethods), .int .i64 x.fc.fAt, .str x.fm.fName, .bool x.fm.fPure, .int .i64 x.fm.fRet.fKind, .str x.fm.fRet.fClass, .int .i64 x.fm.fRet.fN, .int .i64 x.fm.fRet.fOwn.a0.fKind, .int .i64 x.fm.fRet.fOwn.a0.fN, .int .i64 x.fm.fRet.fOwn.a1.fKind, .int .i64 x.fm.fRet.fOwn.a1.fN, .int .i64 x.fm.fRet.fOwn.a2.fKind, .int .i64 x.fm.fRet.fOwn.a2.fN, .int .i64 x.fm.fRet.fOwn.a3.fKind, .int .i64 x.fm.fRet.fOwn.a3.fN, .vs 13 (List.map eGVar x.fm.fParams), .vs 13 (List.map eGVar x.fm.fLocals), .vs 23 (eLGStmt x.fm.fBody), .int .i64 x.fm.fAt, .vs 1 (List.map eS x.fvars), .mpv Tryz.prog 131 x.fat, .int .i64 x.fbad, .int .i64 x.fn]
structure GFound_method where
 fClass : List UInt8
 fMethod : GMethod
abbrev zGFound_method : GFound_method := ({ fClass := [], fMethod := zGMethod } : GFound_method)
def mGFound_method : GFound_method → Nat
 | ⟨_, z1⟩ => 1 + mGMethod z1
def mLGFound_method : List GFound_method → Nat
 | [] => 0
 | x :: l => mGFound_method x + mLGFound_method l
abbrev eGFound_method (x : GFound_method) : List PV := [.str x.fClass, .str x.fMethod.fName, .bool x.fMethod.fPure, .int .i64 x.fMethod.fRet.fKind, .str x.fMethod.fRet.fClass, .int .i64 x.fMethod.fRet.fN, .int .i64 x.fMethod.fRet.fOwn.a0.fKind, .int .i64 x.fMethod.fRet.fOwn.a0.fN, .int .i64 x.fMethod.fRet.fOwn.a1.fKind, .int .i64 x.fMethod.fRet.fOwn.a1.fN, .int .i64 x.fMethod.fRet.fOwn.a2.fKind, .int .i64 x.fMethod.fRet.fOwn.a2.fN, .int .i64 x.fMethod.fRet.fOwn.a3.fKind, .int .i64 x.fMethod.fRet.fOwn.a3.fN, .vs 13 (List.map eGVar x.fMethod.fParams), .vs 13 (List.map eGVar x.fMethod.fLocals), .vs 23 (eLGStmt x.fMethod.fBody), .int .i64 x.fMethod.fAt]
structure Gasker_fit where
 fp : List GClass
 fc : GClass
 fm : GMethod
 fs : GStmt
 fx : GType
 fo : GType
abbrev zGasker_fit : Gasker_fit := ({ fp := [], fc := zGClass, fm := zGMethod, fs := zGStmt, fx := zGType, fo := zGType } : Gasker_fit)
def mGasker_fit : Gasker_fit → Nat
 | ⟨z0, z1, z2, z3, _, _⟩ => 1 + mLGClass z0 + mGClass z1 + mGMethod z2 + mGStmt z3
def mLGasker_fit : List Gasker_fit → Nat
 | [] => 0
 | x :: l => mGasker_fit x + mLGasker_fit l
abbrev eGasker_fit (x : Gasker_fit) : List PV := [.vs 7 (List.map eGClass x.fp), .str x.fc.fName, .vs 1 (List.map eS x.fc.fParams), .str x.fc.fSuper, .vs 2 (List.map eGOwner x.fc.fAbove), .vs 13 (List.map eGVar x.fc.fFields), .vs 17 (List.map eGMethod x.fc.fMethods), .int .i64 x.fc.fAt, .str x.fm.fName, .bool x.fm.fPure, .int .i64 x.fm.fRet.fKind, .str x.fm.fRet.fClass, .int .i64 x.fm.fRet.fN, .int .i64 x.fm.fRet.fOwn.a0.fKind, .int .i64 x.fm.fRet.fOwn.a0.fN, .int .i64 x.fm.fRet.fOwn.a1.fKind, .int .i64 x.fm.fRet.fOwn.a1.fN, .int .i64 x.fm.fRet.fOwn.a2.fKind, .int .i64 x.fm.fRet.fOwn.a2.fN, .int .i64 x.fm.fRet.fOwn.a3.fKind, .int .i64 x.fm.fRet.fOwn.a3.fN, .vs 13 (List.map eGVar x.fm.fParams), .vs 13 (List.map eGVar x.fm.fLocals), .vs 23 (eLGStmt x.fm.fBody), .int .i64 x.fm.fAt, .int .i64 x.fs.fKind, .str x.fs.fX, .str x.fs.fY, .str x.fs.fName, .int .i64 x.fs.fType.fKind, .str x.fs.fType.fClass, .int .i64 x.fs.fType.fN, .int .i64 x.fs.fType.fOwn.a0.fKind, .int .i64 x.fs.fType.fOwn.a0.fN, .int .i64 x.fs.fType.fOwn.a1.fKind, .int .i64 x.fs.fType.fOwn.a1.fN, .int .i64 x.fs.fType.fOwn.a2.fKind, .int .i64 x.fs.fType.fOwn.a2.fN, .int .i64 x.fs.fType.fOwn.a3.fKind, .int .i64 x.fs.fType.fOwn.a3.fN, .int .i64 x.fs.fE.fKind, .int .i64 x.fs.fE.fNum, .str x.fs.fE.fName, .vs 4 (eLGExpr x.fs.fE.fKids), .vs 4 (eLGExpr x.fs.fArgs), .vs 23 (eLGStmt x.fs.fBody), .vs 23 (eLGStmt x.fs.fElse), .int .i64 x.fs.fAt, .int .i64 x.fx.fKind, .str x.fx.fClass, .int .i64 x.fx.fN, .int .i64 x.fx.fOwn.a0.fKind, .int .i64 x.fx.fOwn.a0.fN, .int .i64 x.fx.fOwn.a1.fKind, .int .i64 x.fx.fOwn.a1.fN, .int .i64 x.fx.fOwn.a2.fKind, .int .i64 x.fx.fOwn.a2.fN, .int .i64 x.fx.fOwn.a3.fKind, .int .i64 x.fx.fOwn.a3.fN, .int .i64 x.fo.fKind, .str x.fo.fClass, .int .i64 x.fo.fN, .int .i64 x.fo.fOwn.a0.fKind, .int .i64 x.fo.fOwn.a0.fN, .int .i64 x.fo.fOwn.a1.fKind, .int .i64 x.fo.fOwn.a1.fN, .int .i64 x.fo.fOwn.a2.fKind, .int .i64 x.fo.fOwn.a2.fN, .int .i64 x.fo.fOwn.a3.fKind, .int .i64 x.fo.fOwn.a3.fN]
structure Gheld_method where
 fMethod : GMethod
 fclass : Int
abbrev zGheld_method : Gheld_method := ({ fMethod := zGMethod, fclass := 0 } : Gheld_method)
def mGheld_method : Gheld_method → Nat
 | ⟨z0, _⟩ => 1 + mGMethod z0
def mLGheld_method : List Gheld_method → Nat
 | [] => 0
 | x :: l => mGheld_method x + mLGheld_method l
abbrev eGheld_method (x : Gheld_method) : List PV := [.str x.fMethod.fName, .bool x.fMethod.fPure, .int .i64 x.fMethod.fRet.fKind, .str x.fMethod.fRet.fClass, .int .i64 x.fMethod.fRet.fN, .int .i64 x.fMethod.fRet.fOwn.a0.fKind, .int .i64 x.fMethod.fRet.fOwn.a0.fN, .int .i64 x.fMethod.fRet.fOwn.a1.fKind, .int .i64 x.fMethod.fRet.fOwn.a1.fN, .int .i64 x.fMethod.fRet.fOwn.a2.fKind, .int .i64 x.fMethod.fRet.fOwn.a2.fN, .int .i64 x.fMethod.fRet.fOwn.a3.fKind, .int .i64 x.fMethod.fRet.fOwn.a3.fN, .vs 13 (List.map eGVar x.fMethod.fParams), .vs 13 (List.map eGVar x.fMethod.fLocals), .vs 23 (eLGStmt x.fMethod.fBody), .int .i64 x.fMethod.fAt, .int .i64 x.fclass]
structure GLine_arena where
 fClass : Int
 fMethod : Int
 fDeep : Int
 fS : GStmt
abbrev zGLine_arena : GLine_arena := ({ fClass := 0, fMethod := 0, fDeep := 0, fS := zGStmt } : GLine_arena)
def mGLine_arena : GLine_arena → Nat
 | ⟨_, _, _, z3⟩ => 1 + mGStmt z3
def mLGLine_arena : List GLine_arena → Nat
 | [] => 0
 | x :: l => mGLine_arena x + mLGLine_arena l
abbrev eGLine_arena (x : GLine_arena) : List PV := [.int .i64 x.fClass, .int .i64 x.fMethod, .int .i64 x.fDeep, .int .i64 x.fS.fKind, .str x.fS.fX, .str x.fS.fY, .str x.fS.fName, .int .i64 x.fS.fType.fKind, .str x.fS.fType.fClass, .int .i64 x.fS.fType.fN, .int .i64 x.fS.fType.fOwn.a0.fKind, .int .i64 x.fS.fType.fOwn.a0.fN, .int .i64 x.fS.fType.fOwn.a1.fKind, .int .i64 x.fS.fType.fOwn.a1.fN, .int .i64 x.fS.fType.fOwn.a2.fKind, .int .i64 x.fS.fType.fOwn.a2.fN, .int .i64 x.fS.fType.fOwn.a3.fKind, .int .i64 x.fS.fType.fOwn.a3.fN, .int .i64 x.fS.fE.fKind, .int .i64 x.fS.fE.fNum, .str x.fS.fE.fName, .vs 4 (eLGExpr x.fS.fE.fKids), .vs 4 (eLGExpr x.fS.fArgs), .vs 23 (eLGStmt x.fS.fBody), .vs 23 (eLGStmt x.fS.fElse), .int .i64 x.fS.fAt]
structure GPlace_ref20 where
 fP : List GClass
 fC : GClass
 fM : GMethod
abbrev zGPlace_ref20 : GPlace_ref20 := ({ fP := [], fC := zGClass, fM := zGMethod } : GPlace_ref20)
def mGPlace_ref20 : GPlace_ref20 → Nat
 | ⟨z0, z1, z2⟩ => 1 + mLGClass z0 + mGClass z1 + mGMethod z2
def mLGPlace_ref20 : List GPlace_ref20 → Nat
 | [] => 0
 | x :: l => mGPlace_ref20 x + mLGPlace_ref20 l
abbrev eGPlace_ref20 (x : GPlace_ref20) : List PV := [.vs 7 (List.map eGClass x.fP), .str x.fC.fName, .vs 1 (List.map eS x.fC.fParams), .str x.fC.fSuper, .vs 2 (List.map eGOwner x.fC.fAbove), .vs 13 (List.map eGVar x.fC.fFields), .vs 17 (List.map eGMethod x.fC.fMethods), .int .i64 x.fC.fAt, .str x.fM.fName, .bool x.fM.fPure, .int .i64 x.fM.fRet.fKind, .str x.fM.fRet.fClass, .int .i64 x.fM.fRet.fN, .int .i64 x.fM.fRet.fOwn.a0.fKind, .int .i64 x.fM.fRet.fOwn.a0.fN, .int .i64 x.fM.fRet.fOwn.a1.fKind, .int .i64 x.fM.fRet.fOwn.a1.fN, .int .i64 x.fM.fRet.fOwn.a2.fKind, .int .i64 x.fM.fRet.fOwn.a2.fN, .int .i64 x.fM.fRet.fOwn.a3.fKind, .int .i64 x.fM.fRet.fOwn.a3.fN, .vs 13 (List.map eGVar x.fM.fParams), .vs 13 (List.map eGVar x.fM.fLocals), .vs 23 (eLGStmt x.fM.fBody), .int .i64 x.fM.fAt]
structure GWay_law23 where
 fThere : List (List UInt8)
 fTurns : List Bool
 fBack : Bool
 fFine : Bool
 deriving DecidableEq
abbrev zGWay_law23 : GWay_law23 := ({ fThere := [], fTurns := [], fBack := false, fFine := false } : GWay_law23)
abbrev eGWay_law23 (x : GWay_law23) : List PV := [.vs 1 (List.map eS x.fThere), .vs 1 (List.map eB x.fTurns), .bool x.fBack, .bool x.fFine]
def bGType (a b : GType) : Bool := (a.fKind == b.fKind && (a.fClass == b.fClass && (a.fN == b.fN && (a.fOwn.a0.fKind == b.fOwn.a0.fKind && (a.fOwn.a0.fN == b.fOwn.a0.fN && (a.fOwn.a1.fKind == b.fOwn.a1.fKind && (a.fOwn.a1.fN == b.fOwn.a1.fN && (a.fOwn.a2.fKind == b.fOwn.a2.fKind && (a.fOwn.a2.fN == b.fOwn.a2.fN && (a.fOwn.a3.fKind == b.fOwn.a3.fKind && (a.fOwn.a3.fN == b.fOwn.a3.fN && true)))))))))))
def bGOwner (a b : GOwner) : Bool := (a.fKind == b.fKind && (a.fN == b.fN && true))
def bGFault (a b : GFault) : Bool := (a.fErr == b.fErr && (a.fAt == b.fAt && true))
def ref10_uniques_L1 (a0 : GMethod) : Nat → Int → Int → Option (Int)
 | 0, _, _ => none
 | n + 1, x10, x11 =>
 if (decide (x11 < (a0.fParams.length : Int))) then
 ((idx a0.fParams x11).bind fun y26 =>
 if (y26.fType.fOwn.a0.fKind == 6) then
 some (w_i64 (x10 + 1))
 else
 some x10 : Option (Int)).bind fun x29 =>
 ref10_uniques_L1 a0 n x29 (w_i64 (x11 + 1))
 else
 some x10
def ref10_uniques_L2 (a0 : GMethod) : Nat → Int → Int → Option (Int)
 | 0, _, _ => none
 | n + 1, x45, x46 =>
 if (decide (x46 < (a0.fLocals.length : Int))) then
 ((idx a0.fLocals x46).bind fun y61 =>
 if (y61.fType.fOwn.a0.fKind == 6) then
 some (w_i64 (x45 + 1))
 else
 some x45 : Option (Int)).bind fun x64 =>
 ref10_uniques_L2 a0 n x64 (w_i64 (x46 + 1))
 else
 some x45
def ref10_uniques (a0 : GMethod) : Option Int :=
 (ref10_uniques_L1 a0 ((a0.fParams.length - 0 : Int).toNat + 1) 0 0).bind fun x34 =>
 (ref10_uniques_L2 a0 ((a0.fLocals.length - 0 : Int).toNat + 1) x34 0).bind fun x69 =>
 some x69
def ref10_kids_L1 (a0 : GExpr) (a1 : Int) (ref10_kids_rec : GExpr → Int → Option Bool) : Nat → Int → Option (Ctl (Bool) (Unit))
 | 0, _ => none
 | n + 1, x16 =>
 if (decide (x16 < (a0.fKids.length : Int))) then
 (idx a0.fKids x16).bind fun y33 =>
 (ref10_kids_rec y33 (w_i64 (a1 - 1))).bind fun y35 =>
 if y35 = true then
 some (.stop true)
 else
 ref10_kids_L1 a0 a1 ref10_kids_rec n (w_i64 (x16 + 1))
 else
 some (.next ())
def ref10_kids : Nat → GExpr → Int → Option Bool
 | 0, _, _ => none
 | n + 1, a0, a1 =>
 (if (decide (a1 < 0)) then
 some true
 else
 some (decide ((a0.fKids.length : Int) > 4)) : Option (Bool)).bind fun x2 =>
 if x2 = true then
 some true
 else
 (ref10_kids_L1 a0 a1 (ref10_kids n) ((a0.fKids.length - 0 : Int).toNat + 1) 0).bind fun lr39 =>
 Ctl.elim lr39 (fun v => some v) fun _ =>
 some false
def ref10_much_L1 (a0 : GStmt) : Nat → Int → Option (Ctl (Bool) (Unit))
 | 0, _ => none
 | n + 1, x21 =>
 if (decide (x21 < (a0.fArgs.length : Int))) then
 (idx a0.fArgs x21).bind fun y38 =>
 (ref10_kids (mGExpr y38 + 1) y38 25).bind fun y40 =>
 if y40 = true then
 some (.stop true)
 else
 ref10_much_L1 a0 n (w_i64 (x21 + 1))
 else
 some (.next ())
def ref10_much_L2 (a0 : GStmt) (a1 : Int) (ref10_much_rec : GStmt → Int → Option Bool) : Nat → Int → Option (Ctl (Bool) (Unit))
 | 0, _ => none
 | n + 1, x56 =>
 if (decide (x56 < (a0.fBody.length : Int))) then
 (idx a0.fBody x56).bind fun y73 =>
 (ref10_much_rec y73 (w_i64 (a1 - 1))).bind fun y75 =>
 if y75 = true then
 some (.stop true)
 else
 ref10_much_L2 a0 a1 ref10_much_rec n (w_i64 (x56 + 1))
 else
 some (.next ())
def ref10_much_L3 (a0 : GStmt) (a1 : Int) (ref10_much_rec : GStmt → Int → Option Bool) : Nat → Int → Option (Ctl (Bool) (Unit))
 | 0, _ => none
 | n + 1, x91 =>
 if (decide (x91 < (a0.fElse.length : Int))) then
 (idx a0.fElse x91).bind fun y108 =>
 (ref10_much_rec y108 (w_i64 (a1 - 1))).bind fun y110 =>
 if y110 = true then
 some (.stop true)
 else
 ref10_much_L3 a0 a1 ref10_much_rec n (w_i64 (x91 + 1))
 else
 some (.next ())
def ref10_much : Nat → GStmt → Int → Option Bool
 | 0, _, _ => none
 | n + 1, a0, a1 =>
 (if (decide (a1 < 0)) then
 some true
 else
 if (decide ((a0.fBody.length : Int) > 500)) then
 some true
 else
 if (decide ((a0.fElse.length : Int) > 500)) then
 some true
 else
 if (decide ((a0.fArgs.length : Int) > 20)) then
 some true
 else
 (ref10_kids (mGExpr a0.fE + 1) a0.fE 25).bind fun y5 =>
 some y5 : Option (Bool)).bind fun x7 =>
 if x7 = true then
 some true
 else
 (ref10_much_L1 a0 ((a0.fArgs.length - 0 : Int).toNat + 1) 0).bind fun lr44 =>
 Ctl.elim lr44 (fun v => some v) fun _ =>
 (ref10_much_L2 a0 a1 (ref10_much n) ((a0.fBody.length - 0 : Int).toNat + 1) 0).bind fun lr79 =>
 Ctl.elim lr79 (fun v => some v) fun _ =>
 (ref10_much_L3 a0 a1 (ref10_much n) ((a0.fElse.length - 0 : Int).toNat + 1) 0).bind fun lr114 =>
 Ctl.elim lr114 (fun v => some v) fun _ =>
 some false
def ref08_Size_L1 (a0 : GStmt) (ref08_Size_rec : GStmt → Option Int) : Nat → Int → Int → Option (Int)
 | 0, _, _ => none
 | n + 1, x10, x11 =>
 if (decide (x11 < (a0.fBody.length : Int))) then
 (idx a0.fBody x11).bind fun y28 =>
 (ref08_Size_rec y28).bind fun (y30 : Int) =>
 ref08_Size_L1 a0 ref08_Size_rec n (w_i64 (x10 + y30)) (w_i64 (x11 + 1))
 else
 some x10
def ref08_Size_L2 (a0 : GStmt) (ref08_Size_rec : GStmt → Option Int) : Nat → Int → Int → Option (Int)
 | 0, _, _ => none
 | n + 1, x45, x46 =>
 if (decide (x46 < (a0.fElse.length : Int))) then
 (idx a0.fElse x46).bind fun y63 =>
 (ref08_Size_rec y63).bind fun (y65 : Int) =>
 ref08_Size_L2 a0 ref08_Size_rec n (w_i64 (x45 + y65)) (w_i64 (x46 + 1))
 else
 some x45
def ref08_Size : Nat → GStmt → Option Int
 | 0, _ => none
 | n + 1, a0 =>
 (ref08_Size_L1 a0 (ref08_Size n) ((a0.fBody.length - 0 : Int).toNat + 1) 1 0).bind fun x34 =>
 (ref08_Size_L2 a0 (ref08_Size n) ((a0.fElse.length - 0 : Int).toNat + 1) x34 0).bind fun x69 =>
 some x69
def ref10_Heavy_L3 (y685 : GMethod) : Nat → Int → Int → Option (Ctl (Bool) (Int))
 | 0, _, _ => none
 | n + 1, x714, x715 =>
 if (decide (x715 < (y685.fBody.length : Int))) then
 (if (decide (x714 > 500)) then
 some true
 else
 (idx y685.fBody x715).bind fun y738 =>
 (ref10_much (mGStmt y738 + 1) y738 25).bind fun y740 =>
 some y740 : Option (Bool)).bind fun x742 =>
 if x742 = true then
 some (.stop true)
 else
 (idx y685.fBody x715).bind fun y750 =>
 (ref08_Size (mGStmt y750 + 1) y750).bind fun (y752 : Int) =>
 ref10_Heavy_L3 y685 n (w_i64 (x714 + y752)) (w_i64 (x715 + 1))
 else
 some (.next x714)
def ref10_Heavy_L2 (y514 : GClass) : Nat → Int → Int → Option (Ctl (Bool) (Int))
 | 0, _, _ => none
 | n + 1, x601, x602 =>
 if (decide (x602 < (y514.fMethods.length : Int))) then
 (idx y514.fMethods x602).bind fun y685 =>
 (if (decide ((y685.fParams.length : Int) > 40)) then
 some true
 else
 if (decide ((y685.fLocals.length : Int) > 40)) then
 some true
 else
 if (decide ((y685.fBody.length : Int) > 500)) then
 some true
 else
 (ref10_uniques y685).bind fun (y690 : Int) =>
 some (decide (y690 > 8)) : Option (Bool)).bind fun x692 =>
 if x692 = true then
 some (.stop true)
 else
 (ref10_Heavy_L3 y685 ((y685.fBody.length - 0 : Int).toNat + 1) x601 0).bind fun lr757 =>
 Ctl.elim lr757 (fun v => some (.stop v)) fun x756 =>
 ref10_Heavy_L2 y514 n x756 (w_i64 (x602 + 1))
 else
 some (.next x601)
def ref10_Heavy_L1 (a0 : List GClass) : Nat → Int → Int → Option (Ctl (Bool) (Int))
 | 0, _, _ => none
 | n + 1, x254, x255 =>
 if (decide (x255 < (a0.length : Int))) then
 (idx a0 x255).bind fun y514 =>
 (if (decide ((a0.length : Int) > 30)) then
 some true
 else
 if (decide ((y514.fParams.length : Int) > 20)) then
 some true
 else
 if (decide ((y514.fAbove.length : Int) > 20)) then
 some true
 else
 if (decide ((y514.fFields.length : Int) > 40)) then
 some true
 else
 some (decide ((y514.fMethods.length : Int) > 40)) : Option (Bool)).bind fun x520 =>
 if x520 = true then
 some (.stop true)
 else
 (ref10_Heavy_L2 y514 ((y514.fMethods.length - 0 : Int).toNat + 1) x254 0).bind fun lr762 =>
 Ctl.elim lr762 (fun v => some (.stop v)) fun x761 =>
 ref10_Heavy_L1 a0 n x761 (w_i64 (x255 + 1))
 else
 some (.next x254)
def ref10_Heavy (a0 : List GClass) : Option Bool :=
 (ref10_Heavy_L1 a0 ((a0.length - 0 : Int).toNat + 1) 0 0).bind fun lr767 =>
 Ctl.elim lr767 (fun v => some v) fun x766 =>
 some (decide (x766 > 500))
def ref02_Letter (a0 : Int) : Option Bool :=
 if (decide (a0 ≥ 97)) then
 if (decide (a0 ≤ 122)) then
 some true
 else
 if (decide (a0 ≥ 65)) then
 some (decide (a0 ≤ 90))
 else
 some false
 else
 if (decide (a0 ≥ 65)) then
 some (decide (a0 ≤ 90))
 else
 some false
def ref02_Words  : Option (List (List UInt8)) :=
 some [[99, 108, 97, 115, 115], [101, 120, 116, 101, 110, 100, 115], [114, 101, 112], [112, 101, 101, 114], [119, 111, 114, 108, 100], [97, 110, 121], [117, 110, 105, 113, 117, 101], [112, 117, 114, 101], [118, 111, 105, 100], [105, 110, 116], [105, 102], [101, 108, 115, 101], [119, 104, 105, 108, 101], [114, 101, 116, 117, 114, 110], [110, 101, 119], [109, 111, 118, 101], [100, 101, 108, 101, 116, 101], [116, 104, 105, 115], [110, 117, 108, 108], [105, 110, 112, 117, 116], [110, 105, 108], [115, 97, 109, 101], [99, 97, 115, 116]]
def ref02_Find_L1 (a0 : List UInt8) (y3 : (List (List UInt8))) : Nat → Int → Option (Ctl (Int) (Unit))
 | 0, _ => none
 | n + 1, x11 =>
 if (decide (x11 < (y3.length : Int))) then
 (idx y3 x11).bind fun y22 =>
 if (y22 == a0) then
 some (.stop (w_i64 (x11 + 1)))
 else
 ref02_Find_L1 a0 y3 n (w_i64 (x11 + 1))
 else
 some (.next ())
def ref02_Find (a0 : List UInt8) : Option Int :=
 Option.bind ref02_Words fun (y3 : (List (List UInt8))) =>
 (ref02_Find_L1 a0 y3 ((y3.length - 0 : Int).toNat + 1) 0).bind fun lr26 =>
 Ctl.elim lr26 (fun v => some v) fun _ =>
 some 0
def ref02_Digit (a0 : Int) : Option Bool :=
 if (decide (a0 ≥ 48)) then
 some (decide (a0 ≤ 57))
 else
 some false
def ref02_Name_L1 (a0 : List UInt8) : Nat → Int → Option (Ctl (Bool) (Unit))
 | 0, _ => none
 | n + 1, x32 =>
 if (decide (x32 < (a0.length : Int))) then
 ((idx a0 x32).bind fun (y57 : UInt8) =>
 (ref02_Letter (y57.toNat : Int)).bind fun y59 =>
 if (!y59) then
 (idx a0 x32).bind fun (y62 : UInt8) =>
 (ref02_Digit (y62.toNat : Int)).bind fun y64 =>
 some (!y64)
 else
 some false : Option (Bool)).bind fun x66 =>
 if x66 = true then
 some (.stop false)
 else
 ref02_Name_L1 a0 n (w_i64 (x32 + 1))
 else
 some (.next ())
def ref02_Name (a0 : List UInt8) : Option Bool :=
 (if (decide ((a0.length : Int) < 1)) then
 some true
 else
 if (decide ((a0.length : Int) > 20)) then
 some true
 else
 (idx a0 0).bind fun (y3 : UInt8) =>
 (ref02_Letter (y3.toNat : Int)).bind fun y5 =>
 if (!y5) then
 some true
 else
 (ref02_Find a0).bind fun (y8 : Int) =>
 some (decide (y8 > 0)) : Option (Bool)).bind fun x10 =>
 if x10 = true then
 some false
 else
 (ref02_Name_L1 a0 ((a0.length - 0 : Int).toNat + 1) 0).bind fun lr71 =>
 Ctl.elim lr71 (fun v => some v) fun _ =>
 some true
def ref04_Right (a0 : GOwner) (a1 : Int) : Option Bool :=
 if (a0.fKind == 3) then
 if (decide (a0.fN ≥ 1)) then
 some (decide (a0.fN ≤ a1))
 else
 some false
 else
 if (a0.fKind == 7) then
 some (decide (a0.fN ≥ 0))
 else
 if (a0.fN == 0) then
 if (a0.fKind == 1) then
 some true
 else
 if (a0.fKind == 2) then
 some true
 else
 if (a0.fKind == 4) then
 some true
 else
 if (a0.fKind == 5) then
 some true
 else
 some (a0.fKind == 6)
 else
 some false
def ref08_Blank (a0 : GStmt) : Option GStmt :=
 ((if (a0.fKind == 1) then
 some true
 else
 if (a0.fKind == 2) then
 some true
 else
 if (a0.fKind == 4) then
 some true
 else
 if (a0.fKind == 5) then
 some true
 else
 if (a0.fKind == 6) then
 some true
 else
 some (a0.fKind == 7) : Option (Bool)).bind fun x6 =>
 if x6 = true then
 some ({ a0 with fX := [] } : GStmt)
 else
 some a0 : Option (GStmt)).bind fun x10 =>
 ((if (a0.fKind == 2) then
 some true
 else
 if (a0.fKind == 3) then
 some true
 else
 if (a0.fKind == 4) then
 some true
 else
 if (a0.fKind == 7) then
 some true
 else
 some (a0.fKind == 8) : Option (Bool)).bind fun x17 =>
 if x17 = true then
 some ({ x10 with fY := [] } : GStmt)
 else
 some x10 : Option (GStmt)).bind fun x21 =>
 ((if (a0.fKind == 2) then
 some true
 else
 if (a0.fKind == 3) then
 some true
 else
 some (a0.fKind == 4) : Option (Bool)).bind fun x26 =>
 if x26 = true then
 some ({ x21 with fName := [] } : GStmt)
 else
 some x21 : Option (GStmt)).bind fun x30 =>
 ((if (a0.fKind == 5) then
 some true
 else
 some (a0.fKind == 6) : Option (Bool)).bind fun x34 =>
 if x34 = true then
 some ({ x30 with fType := ({ fKind := 0, fClass := [], fN := 0, fOwn := (⟨zGOwner, zGOwner, zGOwner, zGOwner⟩ : A4 GOwner) } : GType) } : GStmt)
 else
 some x30 : Option (GStmt)).bind fun x38 =>
 ((if (a0.fKind == 1) then
 some true
 else
 if (a0.fKind == 3) then
 some true
 else
 if (a0.fKind == 6) then
 some true
 else
 if (a0.fKind == 9) then
 some true
 else
 if (a0.fKind == 10) then
 some true
 else
 some (a0.fKind == 11) : Option (Bool)).bind fun x46 =>
 if x46 = true then
 some ({ x38 with fE := ({ fKind := 0, fNum := 0, fName := [], fKids := [] } : GExpr) } : GStmt)
 else
 some x38 : Option (GStmt)).bind fun x50 =>
 (if (a0.fKind == 4) then
 some ({ x50 with fArgs := [] } : GStmt)
 else
 some x50 : Option (GStmt)).bind fun x54 =>
 ((if (a0.fKind == 9) then
 some true
 else
 some (a0.fKind == 10) : Option (Bool)).bind fun x58 =>
 if x58 = true then
 some ({ x54 with fBody := [] } : GStmt)
 else
 some x54 : Option (GStmt)).bind fun x62 =>
 if (a0.fKind == 9) then
 some ({ x62 with fElse := [] } : GStmt)
 else
 some x62
def ref06_Same_L1 (a0 : GExpr) (a1 : GExpr) (ref06_Same_rec : GExpr → GExpr → Option Bool) : Nat → Int → Option (Ctl (Bool) (Unit))
 | 0, _ => none
 | n + 1, x22 =>
 if (decide (x22 < (a0.fKids.length : Int))) then
 (idx a0.fKids x22).bind fun y45 =>
 (idx a1.fKids x22).bind fun y47 =>
 (ref06_Same_rec y45 y47).bind fun y49 =>
 if (!y49) then
 some (.stop false)
 else
 ref06_Same_L1 a0 a1 ref06_Same_rec n (w_i64 (x22 + 1))
 else
 some (.next ())
def ref06_Same : Nat → GExpr → GExpr → Option Bool
 | 0, _, _ => none
 | n + 1, a0, a1 =>
 (if (a0.fKind != a1.fKind) then
 some true
 else
 if (a0.fNum != a1.fNum) then
 some true
 else
 if (!(a0.fName == a1.fName)) then
 some true
 else
 some ((a0.fKids.length : Int) != (a1.fKids.length : Int)) : Option (Bool)).bind fun x4 =>
 if x4 = true then
 some false
 else
 (ref06_Same_L1 a0 a1 (ref06_Same n) ((a0.fKids.length - 0 : Int).toNat + 1) 0).bind fun lr53 =>
 Ctl.elim lr53 (fun v => some v) fun _ =>
 some true
def ref08_only (a0 : GStmt) : Option Bool :=
 (ref08_Blank a0).bind fun y3 =>
 if (decide (a0.fKind ≥ 1)) then
 if (decide (a0.fKind ≤ 11)) then
 if (y3.fX == []) then
 if (y3.fY == []) then
 if (y3.fName == []) then
 if (bGType y3.fType ({ fKind := 0, fClass := [], fN := 0, fOwn := (⟨zGOwner, zGOwner, zGOwner, zGOwner⟩ : A4 GOwner) } : GType)) then
 (ref06_Same (mGExpr y3.fE + mGExpr ({ fKind := 0, fNum := 0, fName := [], fKids := [] } : GExpr) + 1) y3.fE ({ fKind := 0, fNum := 0, fName := [], fKids := [] } : GExpr)).bind fun y11 =>
 if y11 = true then
 some ((w_i64 ((w_i64 ((y3.fArgs.length : Int) + (y3.fBody.length : Int))) + (y3.fElse.length : Int))) == 0)
 else
 some false
 else
 some false
 else
 some false
 else
 some false
 else
 some false
 else
 some false
 else
 some false
def ref05_Right_L1 (a0 : GType) (a1 : Int) : Nat → Int → Option (Ctl (Bool) (Unit))
 | 0, _ => none
 | n + 1, x32 =>
 if (decide (x32 < 4)) then
 (idx (a0.fOwn).l x32).bind fun y58 =>
 (if (decide (x32 > a0.fN)) then
 if (!(bGOwner y58 ({ fKind := 0, fN := 0 } : GOwner))) then
 some true
 else
 if (decide (x32 ≤ a0.fN)) then
 (ref04_Right y58 a1).bind fun y63 =>
 if (!y63) then
 some true
 else
 if (decide (x32 > 0)) then
 some (y58.fKind == 6)
 else
 some false
 else
 some false
 else
 if (decide (x32 ≤ a0.fN)) then
 (ref04_Right y58 a1).bind fun y68 =>
 if (!y68) then
 some true
 else
 if (decide (x32 > 0)) then
 some (y58.fKind == 6)
 else
 some false
 else
 some false : Option (Bool)).bind fun x72 =>
 if x72 = true then
 some (.stop false)
 else
 ref05_Right_L1 a0 a1 n (w_i64 (x32 + 1))
 else
 some (.next ())
def ref05_Right (a0 : GType) (a1 : Int) : Option Bool :=
 (if (a0.fKind == 0) then
 some true
 else
 some (a0.fKind == 1) : Option (Bool)).bind fun x2 =>
 if x2 = true then
 some (bGType a0 ({ fKind := a0.fKind, fClass := [], fN := 0, fOwn := (⟨zGOwner, zGOwner, zGOwner, zGOwner⟩ : A4 GOwner) } : GType))
 else
 (if (a0.fKind != 2) then
 some true
 else
 (ref02_Name a0.fClass).bind fun y7 =>
 if (!y7) then
 some true
 else
 if (decide (a0.fN < 0)) then
 some true
 else
 some (decide (a0.fN > 3)) : Option (Bool)).bind fun x11 =>
 if x11 = true then
 some false
 else
 (ref05_Right_L1 a0 a1 (((4 : Int) - (0)).toNat + 1) 0).bind fun lr77 =>
 Ctl.elim lr77 (fun v => some v) fun _ =>
 some true
def ref08_names (a0 : GStmt) (a1 : Int) : Option Bool :=
 ((ref02_Name a0.fX).bind fun y3 =>
 if y3 = true then
 some true
 else
 if (a0.fKind == 4) then
 if (a0.fX == []) then
 some true
 else
 if (a0.fKind == 3) then
 some true
 else
 if (a0.fKind == 8) then
 some true
 else
 some (decide (a0.fKind ≥ 9))
 else
 if (a0.fKind == 3) then
 some true
 else
 if (a0.fKind == 8) then
 some true
 else
 some (decide (a0.fKind ≥ 9)) : Option (Bool)).bind fun x12 =>
 ((ref02_Name a0.fY).bind fun y17 =>
 if y17 = true then
 some true
 else
 if (a0.fKind == 2) then
 if (a0.fY == [116, 104, 105, 115]) then
 some true
 else
 if (a0.fKind == 1) then
 some true
 else
 if (a0.fKind == 5) then
 some true
 else
 if (a0.fKind == 6) then
 some true
 else
 some (decide (a0.fKind ≥ 9))
 else
 if (a0.fKind == 3) then
 if (a0.fY == [116, 104, 105, 115]) then
 some true
 else
 if (a0.fKind == 1) then
 some true
 else
 if (a0.fKind == 5) then
 some true
 else
 if (a0.fKind == 6) then
 some true
 else
 some (decide (a0.fKind ≥ 9))
 else
 if (a0.fKind == 4) then
 if (a0.fY == [116, 104, 105, 115]) then
 some true
 else
 if (a0.fKind == 1) then
 some true
 else
 if (a0.fKind == 5) then
 some true
 else
 if (a0.fKind == 6) then
 some true
 else
 some (decide (a0.fKind ≥ 9))
 else
 if (a0.fKind == 1) then
 some true
 else
 if (a0.fKind == 5) then
 some true
 else
 if (a0.fKind == 6) then
 some true
 else
 some (decide (a0.fKind ≥ 9)) : Option (Bool)).bind fun x38 =>
 ((ref02_Name a0.fName).bind fun y43 =>
 if y43 = true then
 some true
 else
 if (a0.fKind != 2) then
 if (a0.fKind != 3) then
 some (a0.fKind != 4)
 else
 some false
 else
 some false : Option (Bool)).bind fun x48 =>
 (if (a0.fType.fKind == 2) then
 (ref05_Right a0.fType a1).bind fun y52 =>
 if y52 = true then
 some true
 else
 if (a0.fKind != 5) then
 some (a0.fKind != 6)
 else
 some false
 else
 if (a0.fKind != 5) then
 some (a0.fKind != 6)
 else
 some false : Option (Bool)).bind fun x57 =>
 if x12 = true then
 if x38 = true then
 if x48 = true then
 some x57
 else
 some false
 else
 some false
 else
 some false
def ref06_kids (a0 : Int) : Option Int :=
 (if (decide (a0 ≥ 6)) then
 if (decide (a0 ≤ 11)) then
 some true
 else
 some (a0 == 14)
 else
 some (a0 == 14) : Option (Bool)).bind fun x3 =>
 if x3 = true then
 some 2
 else
 (if (a0 == 12) then
 some true
 else
 some (a0 == 13) : Option (Bool)).bind fun x8 =>
 if x8 = true then
 some 1
 else
 some 0
def ref06_form_L1 (a0 : GExpr) (ref06_form_rec : GExpr → Option Bool) : Nat → Int → Option (Ctl (Bool) (Unit))
 | 0, _ => none
 | n + 1, x62 =>
 if (decide (x62 < (a0.fKids.length : Int))) then
 (idx a0.fKids x62).bind fun y93 =>
 ((idx a0.fKids x62).bind fun y99 =>
 (ref06_form_rec y99).bind fun y101 =>
 if (!y101) then
 some true
 else
 if (a0.fKind == 13) then
 if (y93.fKind != 2) then
 if (y93.fKind != 3) then
 some true
 else
 if (a0.fKind == 14) then
 some false
 else
 some false
 else
 if (a0.fKind == 14) then
 some false
 else
 some false
 else
 if (a0.fKind == 14) then
 if (y93.fKind != 2) then
 if (y93.fKind != 3) then
 some (y93.fKind != 4)
 else
 some false
 else
 some false
 else
 some false : Option (Bool)).bind fun x112 =>
 if x112 = true then
 some (.stop false)
 else
 ref06_form_L1 a0 ref06_form_rec n (w_i64 (x62 + 1))
 else
 some (.next ())
def ref06_form : Nat → GExpr → Option Bool
 | 0, _ => none
 | n + 1, a0 =>
 (if (decide (a0.fKind < 1)) then
 some true
 else
 if (decide (a0.fKind > 14)) then
 some true
 else
 (ref06_kids a0.fKind).bind fun (y3 : Int) =>
 if ((a0.fKids.length : Int) != y3) then
 some true
 else
 if (a0.fKind != 1) then
 if (a0.fNum != 0) then
 some true
 else
 if (a0.fKind != 2) then
 if (!(a0.fName == [])) then
 some true
 else
 if (decide (a0.fNum < 0)) then
 some true
 else
 if (decide (a0.fNum > 999999999)) then
 some true
 else
 if (a0.fKind == 2) then
 (ref02_Name a0.fName).bind fun y13 =>
 some (!y13)
 else
 some false
 else
 if (decide (a0.fNum < 0)) then
 some true
 else
 if (decide (a0.fNum > 999999999)) then
 some true
 else
 if (a0.fKind == 2) then
 (ref02_Name a0.fName).bind fun y18 =>
 some (!y18)
 else
 some false
 else
 if (a0.fKind != 2) then
 if (!(a0.fName == [])) then
 some true
 else
 if (decide (a0.fNum < 0)) then
 some true
 else
 if (decide (a0.fNum > 999999999)) then
 some true
 else
 if (a0.fKind == 2) then
 (ref02_Name a0.fName).bind fun y25 =>
 some (!y25)
 else
 some false
 else
 if (decide (a0.fNum < 0)) then
 some true
 else
 if (decide (a0.fNum > 999999999)) then
 some true
 else
 if (a0.fKind == 2) then
 (ref02_Name a0.fName).bind fun y30 =>
 some (!y30)
 else
 some false : Option (Bool)).bind fun x32 =>
 if x32 = true then
 some false
 else
 (ref06_form_L1 a0 (ref06_form n) ((a0.fKids.length - 0 : Int).toNat + 1) 0).bind fun lr117 =>
 Ctl.elim lr117 (fun v => some v) fun _ =>
 some true
def ref06_Deep_L1 (a0 : GExpr) (ref06_Deep_rec : GExpr → Option Int) : Nat → Int → Int → Option (Int)
 | 0, _, _ => none
 | n + 1, x10, x11 =>
 if (decide (x11 < (a0.fKids.length : Int))) then
 (idx a0.fKids x11).bind fun y28 =>
 (ref06_Deep_rec y28).bind fun (y30 : Int) =>
 ref06_Deep_L1 a0 ref06_Deep_rec n (if y30 > x10 then y30 else x10) (w_i64 (x11 + 1))
 else
 some x10
def ref06_Deep : Nat → GExpr → Option Int
 | 0, _ => none
 | n + 1, a0 =>
 (ref06_Deep_L1 a0 (ref06_Deep n) ((a0.fKids.length - 0 : Int).toNat + 1) 0 0).bind fun x34 =>
 some (w_i64 (x34 + 1))
def ref06_Right (a0 : GExpr) : Option Bool :=
 (ref06_form (mGExpr a0 + 1) a0).bind fun y1 =>
 if y1 = true then
 (ref06_Deep (mGExpr a0 + 1) a0).bind fun (y4 : Int) =>
 some (decide (y4 ≤ 20))
 else
 some false
def ref08_tells_L1 (a0 : GStmt) : Nat → Int → Option (Ctl (Bool) (Unit))
 | 0, _ => none
 | n + 1, x38 =>
 if (decide (x38 < (a0.fArgs.length : Int))) then
 (idx a0.fArgs x38).bind fun y55 =>
 (ref06_Right y55).bind fun y57 =>
 if (!y57) then
 some (.stop false)
 else
 ref08_tells_L1 a0 n (w_i64 (x38 + 1))
 else
 some (.next ())
def ref08_tells (a0 : GStmt) : Option Bool :=
 (if (a0.fKind == 2) then
 some true
 else
 if (a0.fKind == 4) then
 some true
 else
 if (a0.fKind == 5) then
 some true
 else
 if (a0.fKind == 7) then
 some true
 else
 if (a0.fKind == 8) then
 some true
 else
 if (a0.fKind == 11) then
 (ref06_Same (mGExpr a0.fE + mGExpr ({ fKind := 0, fNum := 0, fName := [], fKids := [] } : GExpr) + 1) a0.fE ({ fKind := 0, fNum := 0, fName := [], fKids := [] } : GExpr)).bind fun y7 =>
 some y7
 else
 some false : Option (Bool)).bind fun x9 =>
 (if (!x9) then
 (ref06_Right a0.fE).bind fun y13 =>
 if (!y13) then
 some true
 else
 if (a0.fKind == 6) then
 if (a0.fE.fKind != 2) then
 if (a0.fE.fKind != 3) then
 if (a0.fE.fKind != 4) then
 some true
 else
 some (decide ((a0.fArgs.length : Int) > 5))
 else
 some (decide ((a0.fArgs.length : Int) > 5))
 else
 some (decide ((a0.fArgs.length : Int) > 5))
 else
 some (decide ((a0.fArgs.length : Int) > 5))
 else
 if (a0.fKind == 6) then
 if (a0.fE.fKind != 2) then
 if (a0.fE.fKind != 3) then
 if (a0.fE.fKind != 4) then
 some true
 else
 some (decide ((a0.fArgs.length : Int) > 5))
 else
 some (decide ((a0.fArgs.length : Int) > 5))
 else
 some (decide ((a0.fArgs.length : Int) > 5))
 else
 some (decide ((a0.fArgs.length : Int) > 5)) : Option (Bool)).bind fun x24 =>
 if x24 = true then
 some false
 else
 (ref08_tells_L1 a0 ((a0.fArgs.length - 0 : Int).toNat + 1) 0).bind fun lr61 =>
 Ctl.elim lr61 (fun v => some v) fun _ =>
 some true
def ref08_form_L1 (a0 : GStmt) (a1 : Int) (ref08_form_rec : GStmt → Int → Option Bool) : Nat → Int → Option (Ctl (Bool) (Unit))
 | 0, _ => none
 | n + 1, x25 =>
 if (decide (x25 < (a0.fBody.length : Int))) then
 (idx a0.fBody x25).bind fun y42 =>
 (ref08_form_rec y42 a1).bind fun y44 =>
 if (!y44) then
 some (.stop false)
 else
 ref08_form_L1 a0 a1 ref08_form_rec n (w_i64 (x25 + 1))
 else
 some (.next ())
def ref08_form_L2 (a0 : GStmt) (a1 : Int) (ref08_form_rec : GStmt → Int → Option Bool) : Nat → Int → Option (Ctl (Bool) (Unit))
 | 0, _ => none
 | n + 1, x60 =>
 if (decide (x60 < (a0.fElse.length : Int))) then
 (idx a0.fElse x60).bind fun y77 =>
 (ref08_form_rec y77 a1).bind fun y79 =>
 if (!y79) then
 some (.stop false)
 else
 ref08_form_L2 a0 a1 ref08_form_rec n (w_i64 (x60 + 1))
 else
 some (.next ())
def ref08_form : Nat → GStmt → Int → Option Bool
 | 0, _, _ => none
 | n + 1, a0, a1 =>
 ((ref08_only a0).bind fun y3 =>
 if (!y3) then
 some true
 else
 (ref08_names a0 a1).bind fun y6 =>
 if (!y6) then
 some true
 else
 (ref08_tells a0).bind fun y9 =>
 some (!y9) : Option (Bool)).bind fun x11 =>
 if x11 = true then
 some false
 else
 (ref08_form_L1 a0 a1 (ref08_form n) ((a0.fBody.length - 0 : Int).toNat + 1) 0).bind fun lr48 =>
 Ctl.elim lr48 (fun v => some v) fun _ =>
 (ref08_form_L2 a0 a1 (ref08_form n) ((a0.fElse.length - 0 : Int).toNat + 1) 0).bind fun lr83 =>
 Ctl.elim lr83 (fun v => some v) fun _ =>
 some true
def ref08_Deep_L1 (a0 : GStmt) (ref08_Deep_rec : GStmt → Option Int) : Nat → Int → Int → Option (Int)
 | 0, _, _ => none
 | n + 1, x10, x11 =>
 if (decide (x11 < (a0.fBody.length : Int))) then
 (idx a0.fBody x11).bind fun y28 =>
 (ref08_Deep_rec y28).bind fun (y30 : Int) =>
 ref08_Deep_L1 a0 ref08_Deep_rec n (if y30 > x10 then y30 else x10) (w_i64 (x11 + 1))
 else
 some x10
def ref08_Deep_L2 (a0 : GStmt) (ref08_Deep_rec : GStmt → Option Int) : Nat → Int → Int → Option (Int)
 | 0, _, _ => none
 | n + 1, x45, x46 =>
 if (decide (x46 < (a0.fElse.length : Int))) then
 (idx a0.fElse x46).bind fun y63 =>
 (ref08_Deep_rec y63).bind fun (y65 : Int) =>
 ref08_Deep_L2 a0 ref08_Deep_rec n (if y65 > x45 then y65 else x45) (w_i64 (x46 + 1))
 else
 some x45
def ref08_Deep : Nat → GStmt → Option Int
 | 0, _ => none
 | n + 1, a0 =>
 (ref08_Deep_L1 a0 (ref08_Deep n) ((a0.fBody.length - 0 : Int).toNat + 1) 0 0).bind fun x34 =>
 (ref08_Deep_L2 a0 (ref08_Deep n) ((a0.fElse.length - 0 : Int).toNat + 1) x34 0).bind fun x69 =>
 some (w_i64 (x69 + 1))
def ref08_Right (a0 : GStmt) (a1 : Int) : Option Bool :=
 (ref08_form (mGStmt a0 + 1) a0 a1).bind fun y1 =>
 if y1 = true then
 (ref08_Deep (mGStmt a0 + 1) a0).bind fun (y4 : Int) =>
 some (decide (y4 ≤ 20))
 else
 some false
def ref10_written (a0 : GType) (a1 : Int) : Option Bool :=
 (ref05_Right a0 a1).bind fun y1 =>
 if y1 = true then
 if (a0.fOwn.a1.fKind != 7) then
 if (a0.fOwn.a2.fKind != 7) then
 if (a0.fOwn.a3.fKind != 7) then
 if (a0.fOwn.a0.fKind != 7) then
 some true
 else
 some (a0.fOwn.a0.fN == 0)
 else
 some false
 else
 some false
 else
 some false
 else
 some false
def ref10_vars_L1 (a0 : List GVar) (a2 : Int) : Nat → Int → Option (Ctl (Bool) (Unit))
 | 0, _ => none
 | n + 1, x22 =>
 if (decide (x22 < (a0.length : Int))) then
 ((idx a0 x22).bind fun y50 =>
 (ref02_Name y50.fName).bind fun y52 =>
 if (!y52) then
 some true
 else
 (idx a0 x22).bind fun y55 =>
 if (y55.fType.fKind == 0) then
 some true
 else
 (idx a0 x22).bind fun y58 =>
 (ref10_written y58.fType a2).bind fun y60 =>
 some (!y60) : Option (Bool)).bind fun x62 =>
 if x62 = true then
 some (.stop false)
 else
 ref10_vars_L1 a0 a2 n (w_i64 (x22 + 1))
 else
 some (.next ())
def ref10_vars (a0 : List GVar) (a1 : Int) (a2 : Int) : Option Bool :=
 (ref10_vars_L1 a0 a2 ((a0.length - 0 : Int).toNat + 1) 0).bind fun lr67 =>
 Ctl.elim lr67 (fun v => some v) fun _ =>
 some (decide ((a0.length : Int) ≤ a1))
def ref10_open_L1 (a0 : List GStmt) (a1 : Int) (ref10_open_rec : (List GStmt) → Int → Option Bool) : Nat → Int → Option (Ctl (Bool) (Unit))
 | 0, _ => none
 | n + 1, x34 =>
 if (decide (x34 < (a0.length : Int))) then
 ((idx a0 x34).bind fun y72 =>
 if (y72.fType.fKind == 2) then
 (idx a0 x34).bind fun y75 =>
 (ref10_written y75.fType a1).bind fun y77 =>
 if (!y77) then
 some true
 else
 (idx a0 x34).bind fun y80 =>
 (ref10_open_rec y80.fBody a1).bind fun y82 =>
 if (!y82) then
 some true
 else
 (idx a0 x34).bind fun y85 =>
 (ref10_open_rec y85.fElse a1).bind fun y87 =>
 some (!y87)
 else
 (idx a0 x34).bind fun y89 =>
 (ref10_open_rec y89.fBody a1).bind fun y91 =>
 if (!y91) then
 some true
 else
 (idx a0 x34).bind fun y94 =>
 (ref10_open_rec y94.fElse a1).bind fun y96 =>
 some (!y96) : Option (Bool)).bind fun x98 =>
 if x98 = true then
 some (.stop false)
 else
 ref10_open_L1 a0 a1 ref10_open_rec n (w_i64 (x34 + 1))
 else
 some (.next ())
def ref10_open : Nat → (List GStmt) → Int → Option Bool
 | 0, _, _ => none
 | n + 1, a0, a1 =>
 (ref10_open_L1 a0 a1 (ref10_open n) ((a0.length - 0 : Int).toNat + 1) 0).bind fun lr103 =>
 Ctl.elim lr103 (fun v => some v) fun _ =>
 some true
def ref10_method_L1 (a0 : GMethod) (a1 : Int) : Nat → Int → Option (Ctl (Bool) (Unit))
 | 0, _ => none
 | n + 1, x11 =>
 if (decide (x11 < (a0.fBody.length : Int))) then
 (idx a0.fBody x11).bind fun y28 =>
 (ref08_Right y28 a1).bind fun y30 =>
 if (!y30) then
 some (.stop false)
 else
 ref10_method_L1 a0 a1 n (w_i64 (x11 + 1))
 else
 some (.next ())
def ref10_method (a0 : GMethod) (a1 : Int) : Option Bool :=
 (ref10_method_L1 a0 a1 ((a0.fBody.length - 0 : Int).toNat + 1) 0).bind fun lr34 =>
 Ctl.elim lr34 (fun v => some v) fun _ =>
 (ref02_Name a0.fName).bind fun y36 =>
 if y36 = true then
 (ref10_written a0.fRet a1).bind fun y39 =>
 if y39 = true then
 (ref10_vars a0.fParams 5 a1).bind fun y42 =>
 if y42 = true then
 (ref10_vars a0.fLocals 12 a1).bind fun y45 =>
 if y45 = true then
 (ref10_open (mLGStmt a0.fBody + 1) a0.fBody a1).bind fun y48 =>
 some y48
 else
 some false
 else
 some false
 else
 some false
 else
 some false
def ref10_class_L1 (a0 : GClass) : Nat → Int → Option (Ctl (Bool) (Unit))
 | 0, _ => none
 | n + 1, x11 =>
 if (decide (x11 < (a0.fParams.length : Int))) then
 (idx a0.fParams x11).bind fun y28 =>
 (ref02_Name y28).bind fun y30 =>
 if (!y30) then
 some (.stop false)
 else
 ref10_class_L1 a0 n (w_i64 (x11 + 1))
 else
 some (.next ())
def ref10_class_L2 (a0 : GClass) : Nat → Int → Option (Ctl (Bool) (Unit))
 | 0, _ => none
 | n + 1, x56 =>
 if (decide (x56 < (a0.fAbove.length : Int))) then
 (idx a0.fAbove x56).bind fun y81 =>
 ((idx a0.fAbove x56).bind fun y87 =>
 (ref04_Right y87 (a0.fParams.length : Int)).bind fun y89 =>
 if (!y89) then
 some true
 else
 if (y81.fKind != 2) then
 if (y81.fKind != 3) then
 some (y81.fKind != 4)
 else
 some false
 else
 some false : Option (Bool)).bind fun x94 =>
 if x94 = true then
 some (.stop false)
 else
 ref10_class_L2 a0 n (w_i64 (x56 + 1))
 else
 some (.next ())
def ref10_class_L3 (a0 : GClass) : Nat → Int → Option (Ctl (Bool) (Unit))
 | 0, _ => none
 | n + 1, x111 =>
 if (decide (x111 < (a0.fMethods.length : Int))) then
 (idx a0.fMethods x111).bind fun y128 =>
 (ref10_method y128 (a0.fParams.length : Int)).bind fun y130 =>
 if (!y130) then
 some (.stop false)
 else
 ref10_class_L3 a0 n (w_i64 (x111 + 1))
 else
 some (.next ())
def ref10_class (a0 : GClass) : Option Bool :=
 (ref10_class_L1 a0 ((a0.fParams.length - 0 : Int).toNat + 1) 0).bind fun lr34 =>
 Ctl.elim lr34 (fun v => some v) fun _ =>
 (ref10_class_L2 a0 ((a0.fAbove.length - 0 : Int).toNat + 1) 0).bind fun lr99 =>
 Ctl.elim lr99 (fun v => some v) fun _ =>
 (ref10_class_L3 a0 ((a0.fMethods.length - 0 : Int).toNat + 1) 0).bind fun lr134 =>
 Ctl.elim lr134 (fun v => some v) fun _ =>
 (ref02_Name a0.fName).bind fun y136 =>
 if y136 = true then
 if (decide ((a0.fParams.length : Int) ≤ 3)) then
 if (a0.fSuper == []) then
 if ((a0.fAbove.length : Int) == 0) then
 (ref10_vars a0.fFields 12 (a0.fParams.length : Int)).bind fun y142 =>
 if y142 = true then
 some (decide ((a0.fMethods.length : Int) ≤ 12))
 else
 some false
 else
 (ref02_Name a0.fSuper).bind fun y145 =>
 if y145 = true then
 if (decide ((a0.fAbove.length : Int) ≤ 3)) then
 (ref10_vars a0.fFields 12 (a0.fParams.length : Int)).bind fun y149 =>
 if y149 = true then
 some (decide ((a0.fMethods.length : Int) ≤ 12))
 else
 some false
 else
 some false
 else
 some false
 else
 (ref02_Name a0.fSuper).bind fun y152 =>
 if y152 = true then
 if (decide ((a0.fAbove.length : Int) ≤ 3)) then
 (ref10_vars a0.fFields 12 (a0.fParams.length : Int)).bind fun y156 =>
 if y156 = true then
 some (decide ((a0.fMethods.length : Int) ≤ 12))
 else
 some false
 else
 some false
 else
 some false
 else
 some false
 else
 some false
def ref09_Stmts_L2 (a0 : GClass) (x64 : Int) : Nat → Int → Int → Option (Int)
 | 0, _, _ => none
 | n + 1, x147, x148 =>
 (idx a0.fMethods x64).bind fun y170 =>
 if (decide (x148 < (y170.fBody.length : Int))) then
 (idx a0.fMethods x64).bind fun y179 =>
 (idx y179.fBody x148).bind fun y181 =>
 (ref08_Size (mGStmt y181 + 1) y181).bind fun (y183 : Int) =>
 ref09_Stmts_L2 a0 x64 n (w_i64 (x147 + y183)) (w_i64 (x148 + 1))
 else
 some x147
def ref09_Stmts_L1 (a0 : GClass) : Nat → Int → Int → Option (Int)
 | 0, _, _ => none
 | n + 1, x63, x64 =>
 if (decide (x64 < (a0.fMethods.length : Int))) then
 (ref09_Stmts_L2 a0 x64 (Option.getD ((idx a0.fMethods x64).bind fun y189 => some ((y189.fBody.length - 0 : Int).toNat + 1)) 1) x63 0).bind fun x187 =>
 ref09_Stmts_L1 a0 n x187 (w_i64 (x64 + 1))
 else
 some x63
def ref09_Stmts (a0 : GClass) : Option Int :=
 (ref09_Stmts_L1 a0 ((a0.fMethods.length - 0 : Int).toNat + 1) 0 0).bind fun x193 =>
 some x193
def ref10_Right_L1 (a0 : List GClass) : Nat → Int → Int → Option (Ctl (Bool) (Int))
 | 0, _, _ => none
 | n + 1, x19, x20 =>
 if (decide (x20 < (a0.length : Int))) then
 (if (decide ((a0.length : Int) > 20)) then
 some true
 else
 (idx a0 x20).bind fun y43 =>
 (ref10_class y43).bind fun y45 =>
 some (!y45) : Option (Bool)).bind fun x47 =>
 if x47 = true then
 some (.stop false)
 else
 (idx a0 x20).bind fun y55 =>
 (ref09_Stmts y55).bind fun (y57 : Int) =>
 ref10_Right_L1 a0 n (w_i64 (x19 + y57)) (w_i64 (x20 + 1))
 else
 some (.next x19)
def ref10_Right (a0 : List GClass) : Option Bool :=
 (ref10_Right_L1 a0 ((a0.length - 0 : Int).toNat + 1) 0 0).bind fun lr62 =>
 Ctl.elim lr62 (fun v => some v) fun x61 =>
 some (decide (x61 ≤ 400))
def ref02_Blank (a0 : Int) : Option Bool :=
 if (a0 == 9) then
 none
 else
 if (a0 == 10) then
 none
 else
 if (a0 == 13) then
 none
 else
 some (a0 == 32)
def ref03_skip_L1 (a0 : List UInt8) : Nat → Int → Option (Ctl (Int) (Int))
 | 0, _ => none
 | n + 1, x17 =>
 if (decide (x17 < (a0.length : Int))) then
 (idx a0 x17).bind fun (y40 : UInt8) =>
 (ref02_Blank (y40.toNat : Int)).bind fun y42 =>
 if y42 = true then
 ref03_skip_L1 a0 n (w_i64 (x17 + 1))
 else
 (if (decide ((w_i64 (x17 + 1)) ≥ (a0.length : Int))) then
 some ()
 else
 (idx a0 x17).bind fun (y46 : UInt8) =>
 if ((y46.toNat : Int) != 47) then
 some ()
 else
 none : Option (Unit)).bind fun _ =>
 some (.stop x17)
 else
 some (.next x17)
def ref03_skip (a0 : List UInt8) : Option Int :=
 (ref03_skip_L1 a0 (a0.length + 64) 0).bind fun lr53 =>
 Ctl.elim lr53 (fun v => some v) fun x52 =>
 some x52
def ref03_sign_L1 (a0 : List UInt8) : Nat → Int → Option (Ctl ((List UInt8)) (Unit))
 | 0, _ => none
 | n + 1, x26 =>
 (if (decide (x26 < ([123, 125, 40, 41, 60, 62, 44, 59, 46, 61, 43, 45, 42, 33].length : Int))) then
 some ()
 else
 none : Option (Unit)).bind fun _ =>
 if (!(a0 == [])) then
 (idx [123, 125, 40, 41, 60, 62, 44, 59, 46, 61, 43, 45, 42, 33] x26).bind fun (y51 : UInt8) =>
 (idx a0 0).bind fun (y53 : UInt8) =>
 if ((y51.toNat : Int) == (y53.toNat : Int)) then
 (cutL a0 0 1).bind fun y56 =>
 some (.stop y56)
 else
 ref03_sign_L1 a0 n (w_i64 (x26 + 1))
 else
 some (.next ())
def ref03_sign (a0 : List UInt8) : Option (List UInt8) :=
 (if (decide ((a0.length : Int) > 1)) then
 (cutL a0 0 2).bind fun y2 =>
 if (y2 == [61, 61]) then
 none
 else
 (cutL a0 0 2).bind fun y5 =>
 some (y5 == [38, 38])
 else
 some false : Option (Bool)).bind fun x7 =>
 if x7 = true then
 none
 else
 (ref03_sign_L1 a0 (a0.length + 64) 0).bind fun lr59 =>
 Ctl.elim lr59 (fun v => some v) fun _ =>
 some []
def ref03_one_L1 (a0 : List UInt8) : Nat → Int → Option (Int)
 | 0, _ => none
 | n + 1, x24 =>
 (if (decide (x24 < (a0.length : Int))) then
 (idx a0 x24).bind fun (y41 : UInt8) =>
 (ref02_Letter (y41.toNat : Int)).bind fun y43 =>
 if y43 = true then
 some true
 else
 (idx a0 x24).bind fun (y46 : UInt8) =>
 (ref02_Digit (y46.toNat : Int)).bind fun y48 =>
 some y48
 else
 none : Option (Bool)).bind fun x50 =>
 if x50 = true then
 ref03_one_L1 a0 n (w_i64 (x24 + 1))
 else
 some x24
def ref03_one (a0 : List UInt8) : Option GToken :=
 (idx a0 0).bind fun (y5 : UInt8) =>
 (ref02_Letter (y5.toNat : Int)).bind fun y7 =>
 if y7 = true then
 (ref03_one_L1 a0 (a0.length + 64) 0).bind fun x55 =>
 (cutL a0 0 x55).bind fun y61 =>
 (ref02_Find y61).bind fun (y63 : Int) =>
 if (decide (y63 > 0)) then
 (cutL a0 0 x55).bind fun y66 =>
 some ({ fKind := 3, fText := y66, fAt := 0 } : GToken)
 else
 (cutL a0 0 x55).bind fun y68 =>
 some ({ fKind := 1, fText := y68, fAt := 0 } : GToken)
 else
 (idx a0 0).bind fun (y74 : UInt8) =>
 (ref02_Digit (y74.toNat : Int)).bind fun y76 =>
 if y76 = true then
 none
 else
 (ref03_sign a0).bind fun y81 =>
 if (!(y81 == [])) then
 (ref03_sign a0).bind fun y84 =>
 some ({ fKind := 4, fText := y84, fAt := 0 } : GToken)
 else
 none
def ref02_Number_L1 (a0 : List UInt8) : Nat → Option (Ctl (Int × Bool) (Unit))
 | 0 => none
 | n + 1 =>
 if (decide (0 < (a0.length : Int))) then
 (idx a0 0).bind fun (y33 : UInt8) =>
 (ref02_Digit (y33.toNat : Int)).bind fun y35 =>
 if (!y35) then
 some (.stop (0, false))
 else
 none
 else
 some (.next ())
def ref02_Number (a0 : List UInt8) : Option (Int × Bool) :=
 (if (decide ((a0.length : Int) < 1)) then
 none
 else
 if (decide ((a0.length : Int) > 9)) then
 none
 else
 (idx a0 0).bind fun (y3 : UInt8) =>
 if ((y3.toNat : Int) == 48) then
 none
 else
 some () : Option (Unit)).bind fun _ =>
 (ref02_Number_L1 a0 ((a0.length - 0 : Int).toNat + 1)).bind fun lr38 =>
 Ctl.elim lr38 (fun v => some v) fun _ =>
 some (0, true)
def ref03_Of_L1 (a0 : List UInt8) : Nat → (List GToken) → Int → Option ((List GToken))
 | 0, _, _ => none
 | n + 1, x34, x35 =>
 if (decide (x35 < (a0.length : Int))) then
 (cutL a0 x35 a0.length).bind fun y71 =>
 (ref03_one y71).bind fun y73 =>
 if ((({ y73 with fAt := x35 } : GToken).fKind) == 0) then
 none
 else
 (ref02_Number (({ y73 with fAt := x35 } : GToken).fText)).bind fun y78 =>
 (if ((({ y73 with fAt := x35 } : GToken).fKind) == 1) then
 if (decide (((({ y73 with fAt := x35 } : GToken).fText).length : Int) > 20)) then
 none
 else
 if ((({ y73 with fAt := x35 } : GToken).fKind) == 2) then
 none
 else
 some ()
 else
 if ((({ y73 with fAt := x35 } : GToken).fKind) == 2) then
 none
 else
 some () : Option (Unit)).bind fun _ =>
 (room ((x34.length : Int) + ([({ y73 with fAt := x35 } : GToken)].length : Int)) 32).bind fun u88 =>
 (cutL a0 (w_i64 (x35 + ((({ y73 with fAt := x35 } : GToken).fText).length : Int))) a0.length).bind fun y90 =>
 (ref03_skip y90).bind fun (y92 : Int) =>
 ref03_Of_L1 a0 n (x34 ++ [({ y73 with fAt := x35 } : GToken)]) (w_i64 ((w_i64 (x35 + ((({ y73 with fAt := x35 } : GToken).fText).length : Int))) + y92))
 else
 some x34
def ref03_Of (a0 : List UInt8) : Option ((List GToken) × GFault) :=
 if (decide ((a0.length : Int) > 16384)) then
 none
 else
 (ref03_skip a0).bind fun (y4 : Int) =>
 (ref03_Of_L1 a0 ((((a0.length : Int) : Int) - (y4)).toNat + 1) [] y4).bind fun x96 =>
 (room ((x96.length : Int) + ([({ fKind := 0, fText := [], fAt := (a0.length : Int) } : GToken)].length : Int)) 32).bind fun u98 =>
 some ((x96 ++ [({ fKind := 0, fText := [], fAt := (a0.length : Int) } : GToken)]), ({ fErr := 0, fAt := 0 } : GFault))
def ref06_Tok (a0 : List GToken) (a1 : Int) : Option GToken :=
 (if (decide (a1 ≥ 0)) then
 some ()
 else
 none : Option (Unit)).bind fun _ =>
 if (decide (a1 < (a0.length : Int))) then
 (idx a0 a1).bind fun y5 =>
 some y5
 else
 none
def ref09_tok (a0 : List GToken) (a1 : Int) : Option GToken :=
 (ref06_Tok a0 a1).bind fun y1 =>
 some y1
def ref03_Is (a0 : GToken) (a1 : List UInt8) : Option Bool :=
 if (a0.fKind == 3) then
 some (a0.fText == a1)
 else
 if (a0.fKind == 4) then
 some (a0.fText == a1)
 else
 some false
def ref09_is (a0 : List GToken) (a1 : Int) (a2 : List UInt8) : Option Bool :=
 (ref06_Tok a0 a1).bind fun y1 =>
 (ref03_Is y1 a2).bind fun y3 =>
 some y3
def ref07_word_L1 (a0 : GToken) : Nat → Int → Option (Ctl (GOwner) (Unit))
 | 0, _ => none
 | n + 1, x17 =>
 if (decide (x17 < ([[114, 101, 112], [112, 101, 101, 114], [], [119, 111, 114, 108, 100], [97, 110, 121], [117, 110, 105, 113, 117, 101]].length : Int))) then
 ((idx [[114, 101, 112], [112, 101, 101, 114], [], [119, 111, 114, 108, 100], [97, 110, 121], [117, 110, 105, 113, 117, 101]] x17).bind fun (y40 : List UInt8) =>
 (ref03_Is a0 y40).bind fun y42 =>
 if y42 = true then
 (idx [[114, 101, 112], [112, 101, 101, 114], [], [119, 111, 114, 108, 100], [97, 110, 121], [117, 110, 105, 113, 117, 101]] x17).bind fun (y45 : List UInt8) =>
 some (!(y45 == []))
 else
 some false : Option (Bool)).bind fun x47 =>
 if x47 = true then
 some (.stop ({ fKind := w_i64 (x17 + 1), fN := 0 } : GOwner))
 else
 ref07_word_L1 a0 n (w_i64 (x17 + 1))
 else
 some (.next ())
def ref07_word (a0 : GToken) : Option GOwner :=
 (ref07_word_L1 a0 (((([[114, 101, 112], [112, 101, 101, 114], [], [119, 111, 114, 108, 100], [97, 110, 121], [117, 110, 105, 113, 117, 101]].length : Int) : Int) - (0)).toNat + 1) 0).bind fun lr52 =>
 Ctl.elim lr52 (fun v => some v) fun _ =>
 some ({ fKind := 0, fN := 0 } : GOwner)
def ref07_Parse (a0 : List GToken) (a1 : Int) (a2 : List (List UInt8)) (a3 : Bool) : Option GGot_ref07 :=
 (ref06_Tok a0 a1).bind fun y3 =>
 (ref03_Is y3 [118, 111, 105, 100]).bind fun (y7 : Bool) =>
 if y7 = true then
 some ({ fL := [], fT := zGType, fV := zGVar, fNext := w_i64 (a1 + 1), fF := zGFault } : GGot_ref07)
 else
 (ref03_Is y3 [105, 110, 116]).bind fun (y12 : Bool) =>
 if y12 = true then
 some ({ fL := [], fT := ({ fKind := 1, fClass := [], fN := 0, fOwn := (⟨zGOwner, zGOwner, zGOwner, zGOwner⟩ : A4 GOwner) } : GType), fV := zGVar, fNext := w_i64 (a1 + 1), fF := zGFault } : GGot_ref07)
 else
 (ref07_word y3).bind fun y17 =>
 if (y17.fKind != 0) then
 (ref07_word y3).bind fun y22 =>
 (ref06_Tok a0 (w_i64 (a1 + 1))).bind fun y26 =>
 if (y26.fKind != 1) then
 none
 else
 (ref06_Tok a0 (w_i64 ((w_i64 (a1 + 1)) + 1))).bind fun y33 =>
 (ref03_Is y33 [60]).bind fun (y35 : Bool) =>
 if (!y35) then
 some ({ fL := [], fT := ({ ({ ({ ({ fKind := 2, fClass := [], fN := 0, fOwn := (⟨zGOwner, zGOwner, zGOwner, zGOwner⟩ : A4 GOwner) } : GType) with fOwn := ({ ({ fKind := 2, fClass := [], fN := 0, fOwn := (⟨zGOwner, zGOwner, zGOwner, zGOwner⟩ : A4 GOwner) } : GType).fOwn with a0 := ({ fKind := 7, fN := 0 } : GOwner) } : A4 GOwner) } : GType) with fOwn := ({ ({ ({ fKind := 2, fClass := [], fN := 0, fOwn := (⟨zGOwner, zGOwner, zGOwner, zGOwner⟩ : A4 GOwner) } : GType) with fOwn := ({ ({ fKind := 2, fClass := [], fN := 0, fOwn := (⟨zGOwner, zGOwner, zGOwner, zGOwner⟩ : A4 GOwner) } : GType).fOwn with a0 := ({ fKind := 7, fN := 0 } : GOwner) } : A4 GOwner) } : GType).fOwn with a0 := y22 } : A4 GOwner) } : GType) with fClass := y26.fText } : GType), fV := zGVar, fNext := w_i64 ((w_i64 (a1 + 1)) + 1), fF := zGFault } : GGot_ref07)
 else
 none
 else
 none
def ref07_Var (a0 : List GToken) (a1 : Int) (a2 : List (List UInt8)) : Option GGot_ref07 :=
 (ref07_Parse a0 a1 a2 true).bind fun y3 =>
 if (y3.fF.fErr != 0) then
 none
 else
 if (y3.fT.fKind == 0) then
 none
 else
 (ref06_Tok a0 y3.fNext).bind fun y9 =>
 if (y9.fKind != 1) then
 none
 else
 (ref06_Tok a0 a1).bind fun y12 =>
 some ({ fL := [], fT := zGType, fV := ({ fName := y9.fText, fType := y3.fT, fAt := y12.fAt } : GVar), fNext := w_i64 (y3.fNext + 1), fF := zGFault } : GGot_ref07)
def ref09_params_L1 (a0 : List GToken) (a1 : Int) (a2 : List (List UInt8)) : Nat → Option (Ctl (GGot_ref09) (Unit))
 | 0 => none
 | n + 1 =>
 if ((([] : List GVar).length : Int) == 5) then
 none
 else
 (ref07_Var a0 (w_i64 (a1 + 1)) a2).bind fun y39 =>
 if (y39.fF.fErr != 0) then
 none
 else
 (room ((([] : List GVar).length : Int) + ([y39.fV].length : Int)) 120).bind fun u44 =>
 (ref09_is a0 y39.fNext [41]).bind fun (y48 : Bool) =>
 if y48 = true then
 some (.stop ({ fC := zGClass, fM := zGMethod, fV := ([] ++ [y39.fV]), fN := [], fNext := w_i64 (y39.fNext + 1), fF := zGFault } : GGot_ref09))
 else
 none
def ref09_params (a0 : List GToken) (a1 : Int) (a2 : List (List UInt8)) : Option GGot_ref09 :=
 (ref09_is a0 (w_i64 (a1 + 1)) [41]).bind fun (y3 : Bool) =>
 if y3 = true then
 none
 else
 (ref09_params_L1 a0 a1 a2 (a0.length + 64)).bind fun lr51 => Ctl.elim lr51 (fun v => some v) fun _ => none
def ref07_Begins (a0 : List GToken) (a1 : Int) : Option Bool :=
 (ref06_Tok a0 a1).bind fun y3 =>
 ((ref03_Is y3 [105, 110, 116]).bind fun (y7 : Bool) =>
 if y7 = true then
 none
 else
 (ref07_word y3).bind fun y10 =>
 some (y10.fKind != 0) : Option (Bool)).bind fun x12 =>
 if x12 = true then
 some true
 else
 if (y3.fKind != 1) then
 none
 else
 (ref06_Tok a0 (w_i64 (a1 + 1))).bind fun y19 =>
 if (y19.fKind == 1) then
 none
 else
 (ref03_Is y19 [60]).bind fun (y22 : Bool) =>
 some y22
def ref09_locals_L1 (a0 : List GToken) (a2 : List (List UInt8)) : Nat → Int → (List GVar) → Option (Int × (List GVar))
 | 0, _, _ => none
 | n + 1, x21, x22 =>
 (ref07_Begins a0 x21).bind fun y47 =>
 if y47 = true then
 if ((x22.length : Int) == 12) then
 none
 else
 (ref07_Var a0 x21 a2).bind fun y53 =>
 if (y53.fF.fErr != 0) then
 none
 else
 (ref09_is a0 y53.fNext [59]).bind fun (y58 : Bool) =>
 if (!y58) then
 none
 else
 (room ((x22.length : Int) + ([y53.fV].length : Int)) 120).bind fun u63 =>
 ref09_locals_L1 a0 a2 n (w_i64 (y53.fNext + 1)) (x22 ++ [y53.fV])
 else
 some (x21, x22)
def ref09_locals (a0 : List GToken) (a1 : Int) (a2 : List (List UInt8)) : Option GGot_ref09 :=
 (ref09_locals_L1 a0 a2 (a0.length + 64) a1 []).bind fun (x67, x68) =>
 some ({ fC := zGClass, fM := zGMethod, fV := x68, fN := [], fNext := x67, fF := zGFault } : GGot_ref09)
def ref08_tok (a0 : List GToken) (a1 : Int) : Option GToken :=
 (ref06_Tok a0 a1).bind fun y1 =>
 some y1
def ref08_is (a0 : List GToken) (a1 : Int) (a2 : List UInt8) : Option Bool :=
 (ref08_tok a0 a1).bind fun y1 =>
 (ref03_Is y1 a2).bind fun y3 =>
 some y3
def ref08_whose (a0 : List GToken) (a1 : Int) : Option Bool :=
 (ref08_tok a0 a1).bind fun y1 =>
 if (y1.fKind == 1) then
 some true
 else
 (ref08_is a0 a1 [116, 104, 105, 115]).bind fun (y4 : Bool) =>
 some y4
def ref08_ends (a0 : List GToken) (a1 : Int) (a2 : GStmt) : Option GGot_ref08 :=
 (ref08_is a0 a1 [59]).bind fun (y3 : Bool) =>
 if (!y3) then
 none
 else
 some ({ fS := a2, fL := [], fA := [], fNext := w_i64 (a1 + 1), fF := zGFault } : GGot_ref08)
def ref08_typed (a0 : List GToken) (a1 : Int) (a2 : GStmt) (a3 : List (List UInt8)) : Option GGot_ref08 :=
 (ref08_is a0 a1 [99, 97, 115, 116]).bind fun (y3 : Bool) =>
 if y3 = true then
 none
 else
 (ref07_Parse a0 (w_i64 (a1 + 1)) a3 ((({ a2 with fKind := 5 } : GStmt).fKind) == 6)).bind fun y8 =>
 if (y8.fF.fErr != 0) then
 none
 else
 if (y8.fT.fKind != 2) then
 none
 else
 if ((({ ({ a2 with fKind := 5 } : GStmt) with fType := y8.fT } : GStmt).fKind) == 5) then
 (ref08_ends a0 y8.fNext ({ ({ a2 with fKind := 5 } : GStmt) with fType := y8.fT } : GStmt)).bind fun y13 =>
 some y13
 else
 none
def ref08_sets (a0 : List GToken) (a1 : Int) (a2 : GStmt) (a3 : List (List UInt8)) : Option GGot_ref08 :=
 ((ref08_is a0 a1 [110, 101, 119]).bind fun (y3 : Bool) =>
 if y3 = true then
 some ()
 else
 none : Option (Unit)).bind fun _ =>
 (ref08_typed a0 a1 a2 a3).bind fun y8 =>
 some y8
def ref06_atom (a0 : List GToken) (a1 : Int) (a2 : Bool) : Option GGot_ref06 :=
 (ref06_Tok a0 a1).bind fun y3 =>
 if (y3.fKind == 1) then
 some ({ fE := ({ fKind := 2, fNum := 0, fName := y3.fText, fKids := [] } : GExpr), fNext := w_i64 (a1 + 1), fF := zGFault } : GGot_ref06)
 else
 none
def ref06_tight (a0 : List GToken) (a1 : Int) (a2 : Int) : Option GGot_ref06 :=
 (ref06_Tok a0 a1).bind fun y3 =>
 ((ref03_Is y3 [40]).bind fun (y7 : Bool) =>
 if y7 = true then
 none
 else
 (ref03_Is y3 [33]).bind fun (y10 : Bool) =>
 if y10 = true then
 none
 else
 some () : Option (Unit)).bind fun _ =>
 (ref03_Is y3 [40]).bind fun (y17 : Bool) =>
 if y17 = true then
 none
 else
 (ref03_Is y3 [33]).bind fun (y22 : Bool) =>
 if y22 = true then
 none
 else
 ((ref03_Is y3 [110, 105, 108]).bind fun (y27 : Bool) =>
 if y27 = true then
 none
 else
 (ref03_Is y3 [115, 97, 109, 101]).bind fun (y30 : Bool) =>
 some y30 : Option (Bool)).bind fun x32 =>
 if x32 = true then
 none
 else
 (ref03_Is y3 [105, 110, 112, 117, 116]).bind fun (y38 : Bool) =>
 if y38 = true then
 none
 else
 (ref02_Number y3.fText).bind fun y43 =>
 (if (y3.fKind == 2) then
 none
 else
 some () : Option (Unit)).bind fun _ =>
 (ref06_atom a0 a1 true).bind fun y48 =>
 some y48
def ref06_signs (a0 : Int) : Option (List (List UInt8)) :=
 (idx [[[38, 38]], [[60], [61, 61]], [[43], [45]], [[42]]] a0).bind fun (y1 : List (List UInt8)) =>
 some y1
def ref06_between_L1 (a0 : List GToken) (a1 : Int) (y3 : (List (List UInt8))) : Nat → Int → Option (Unit)
 | 0, _ => none
 | n + 1, x19 =>
 if (decide (x19 < (y3.length : Int))) then
 (ref06_Tok a0 a1).bind fun y42 =>
 (idx y3 x19).bind fun y44 =>
 (ref03_Is y42 y44).bind fun y46 =>
 if y46 = true then
 none
 else
 ref06_between_L1 a0 a1 y3 n (w_i64 (x19 + 1))
 else
 some ()
def ref06_between (a0 : List GToken) (a1 : Int) (a2 : Int) : Option (List UInt8) :=
 (ref06_signs a2).bind fun y3 =>
 (ref06_between_L1 a0 a1 y3 ((y3.length - 0 : Int).toNat + 1) 0).bind fun _ =>
 some []
def ref06_chain_L1 (a0 : List GToken) (a2 : Int) (a3 : Int) (y6 : GGot_ref06) (ref06_chain_rec : (List GToken) → Int → Int → Int → Option GGot_ref06) : Nat → Option (Unit)
 | 0 => none
 | n + 1 =>
 (if (y6.fF.fErr == 0) then
 (ref06_between a0 y6.fNext a2).bind fun y33 =>
 some (!(y33 == []))
 else
 none : Option (Bool)).bind fun x35 =>
 if x35 = true then
 (ref06_chain_rec a0 (w_i64 (y6.fNext + 1)) (w_i64 (a2 + 1)) a3).bind fun y41 =>
 if (y41.fF.fErr != 0) then
 none
 else
 none
 else
 some ()
def ref06_chain : Nat → (List GToken) → Int → Int → Int → Option GGot_ref06
 | 0, _, _, _, _ => none
 | n + 1, a0, a1, a2, a3 =>
 if (a2 == 4) then
 (ref06_tight a0 a1 a3).bind fun y2 =>
 some y2
 else
 ((ref06_chain n) a0 a1 (w_i64 (a2 + 1)) a3).bind fun y6 =>
 (ref06_chain_L1 a0 a2 a3 y6 (ref06_chain n) (a0.length + 64)).bind fun _ =>
 some y6
def ref06_Parse (a0 : List GToken) (a1 : Int) : Option GGot_ref06 :=
 (ref06_chain 8 a0 a1 0 0).bind fun y3 =>
 if (y3.fF.fErr != 0) then
 none
 else
 some y3
def ref08_Block_L1 (a0 : List GToken) (a2 : List (List UInt8)) (a3 : Int) (ref08_Parse_rec : (List GToken) → Int → (List (List UInt8)) → Int → Option GGot_ref08) : Nat → Int → (List GStmt) → Option (Int × (List GStmt))
 | 0, _, _ => none
 | n + 1, x20, x21 =>
 (ref08_is a0 x20 [125]).bind fun (y40 : Bool) =>
 if (!y40) then
 (ref08_Parse_rec a0 x20 a2 a3).bind fun y45 =>
 if (y45.fF.fErr != 0) then
 none
 else
 (room ((x21.length : Int) + ([y45.fS].length : Int)) 288).bind fun u50 =>
 ref08_Block_L1 a0 a2 a3 ref08_Parse_rec n y45.fNext (x21 ++ [y45.fS])
 else
 some (x20, x21)
mutual
def ref08_Parse : Nat → (List GToken) → Int → (List (List UInt8)) → Int → Option GGot_ref08
 | 0, _, _, _, _ => none
 | n + 1, a0, a1, a2, a3 =>
 (ref08_tok a0 a1).bind fun y3 =>
 if (decide (a3 ≥ 20)) then
 none
 else
 ((ref08_whose a0 a1).bind fun y8 =>
 if y8 = true then
 (ref08_is a0 (w_i64 (a1 + 1)) [46]).bind fun (y11 : Bool) =>
 some y11
 else
 some false : Option (Bool)).bind fun x13 =>
 if x13 = true then
 none
 else
 (ref08_tok a0 a1).bind fun y19 =>
 if (y19.fKind == 1) then
 (ref08_is a0 (w_i64 (a1 + 1)) [61]).bind fun (y24 : Bool) =>
 if (!y24) then
 none
 else
 (ref08_tok a0 a1).bind fun y29 =>
 (ref08_sets a0 (w_i64 (a1 + 2)) ({ ({ fKind := 0, fX := [], fY := [], fName := [], fType := zGType, fE := zGExpr, fArgs := [], fBody := [], fElse := [], fAt := y3.fAt } : GStmt) with fX := y29.fText } : GStmt) a2).bind fun y31 =>
 some y31
 else
 (ref08_is a0 a1 [116, 104, 105, 115]).bind fun (y35 : Bool) =>
 if y35 = true then
 none
 else
 (ref08_is a0 a1 [100, 101, 108, 101, 116, 101]).bind fun (y40 : Bool) =>
 if y40 = true then
 (ref08_tok a0 (w_i64 (a1 + 1))).bind fun y45 =>
 if (y45.fKind != 1) then
 none
 else
 (ref08_tok a0 (w_i64 (a1 + 1))).bind fun y50 =>
 (ref08_ends a0 (w_i64 (a1 + 2)) ({ ({ ({ fKind := 0, fX := [], fY := [], fName := [], fType := zGType, fE := zGExpr, fArgs := [], fBody := [], fElse := [], fAt := y3.fAt } : GStmt) with fKind := 8 } : GStmt) with fY := y50.fText } : GStmt)).bind fun y52 =>
 some y52
 else
 ((ref08_is a0 a1 [105, 102]).bind fun (y56 : Bool) =>
 if y56 = true then
 some ()
 else
 none : Option (Unit)).bind fun _ =>
 ((ref08_asks n) a0 a1 ({ fKind := 0, fX := [], fY := [], fName := [], fType := zGType, fE := zGExpr, fArgs := [], fBody := [], fElse := [], fAt := y3.fAt } : GStmt) a2 (if 0 > a3 then 0 else a3)).bind fun y61 =>
 some y61
def ref08_asks : Nat → (List GToken) → Int → GStmt → (List (List UInt8)) → Int → Option GGot_ref08
 | 0, _, _, _, _, _ => none
 | n + 1, a0, a1, a2, a3, a4 =>
 (ref08_is a0 a1 [119, 104, 105, 108, 101]).bind fun (y3 : Bool) =>
 if y3 = true then
 none
 else
 (ref08_is a0 (w_i64 (a1 + 1)) [40]).bind fun (y8 : Bool) =>
 if (!y8) then
 none
 else
 (ref06_Parse a0 (w_i64 (a1 + 2))).bind fun y13 =>
 if (y13.fF.fErr != 0) then
 none
 else
 (ref08_is a0 y13.fNext [41]).bind fun (y18 : Bool) =>
 if (!y18) then
 none
 else
 ((ref08_Block n) a0 (w_i64 (y13.fNext + 1)) a3 (w_i64 (a4 + 1))).bind fun y23 =>
 if (y23.fF.fErr != 0) then
 none
 else
 (if ((({ ({ ({ a2 with fKind := 9 } : GStmt) with fE := y13.fE } : GStmt) with fBody := y23.fL } : GStmt).fKind) == 9) then
 (ref08_is a0 y23.fNext [101, 108, 115, 101]).bind fun (y27 : Bool) =>
 some y27
 else
 none : Option (Bool)).bind fun x29 =>
 if x29 = true then
 none
 else
 some ({ fS := ({ ({ ({ a2 with fKind := 9 } : GStmt) with fE := y13.fE } : GStmt) with fBody := y23.fL } : GStmt), fL := [], fA := [], fNext := y23.fNext, fF := zGFault } : GGot_ref08)
def ref08_Block : Nat → (List GToken) → Int → (List (List UInt8)) → Int → Option GGot_ref08
 | 0, _, _, _, _ => none
 | n + 1, a0, a1, a2, a3 =>
 (ref08_is a0 a1 [123]).bind fun (y3 : Bool) =>
 if (!y3) then
 none
 else
 (ref08_Block_L1 a0 a2 a3 (ref08_Parse n) (a0.length + 64) (w_i64 (a1 + 1)) []).bind fun (x54, x55) =>
 some ({ fS := zGStmt, fL := x55, fA := [], fNext := w_i64 (x54 + 1), fF := zGFault } : GGot_ref08)
end


def ref09_method_L1 (a0 : List GToken) (a2 : List (List UInt8)) : Nat → Int → Int → (List GStmt) → Option (Int × (List GStmt))
 | 0, _, _, _ => none
 | n + 1, x35, x36, x37 =>
 (ref09_is a0 x35 [125]).bind fun (y62 : Bool) =>
 if (!y62) then
 (ref08_Parse 9 a0 x35 a2 0).bind fun y67 =>
 if (y67.fF.fErr != 0) then
 none
 else
 (ref08_Size (mGStmt y67.fS + 1) y67.fS).bind fun (y72 : Int) =>
 if (decide ((w_i64 (x36 + y72)) > 400)) then
 none
 else
 (room ((x37.length : Int) + ([y67.fS].length : Int)) 288).bind fun u77 =>
 ref09_method_L1 a0 a2 n y67.fNext (w_i64 (x36 + y72)) (x37 ++ [y67.fS])
 else
 some (x35, x37)
def ref09_method (a0 : List GToken) (a1 : Int) (a2 : List (List UInt8)) (a3_0 : List UInt8) (a3_1 : Bool) (a3_2 : Int) (a3_3 : List UInt8) (a3_4 : Int) (a3_5 : Int) (a3_6 : Int) (a3_7 : Int) (a3_8 : Int) (a3_9 : Int) (a3_10 : Int) (a3_11 : Int) (a3_12 : Int) (a3_13 : List GVar) (a3_14 : List GVar) (a3_16 : Int) (a4 : Int) (b0 : List GStmt) : Option GGot_ref09 :=
 (ref09_params a0 a1 a2).bind fun y3 =>
 if (y3.fF.fErr != 0) then
 none
 else
 (ref09_is a0 y3.fNext [123]).bind fun (y8 : Bool) =>
 if (!y8) then
 none
 else
 (ref09_locals a0 (w_i64 (y3.fNext + 1)) a2).bind fun y13 =>
 if (y13.fF.fErr != 0) then
 none
 else
 (ref09_method_L1 a0 a2 (a0.length + 64) y13.fNext a4 b0).bind fun (x82, x83) =>
 some ({ fC := zGClass, fM := ({ fName := a3_0, fPure := a3_1, fRet := ({ fKind := a3_2, fClass := a3_3, fN := a3_4, fOwn := (⟨({ fKind := a3_5, fN := a3_6 } : GOwner), ({ fKind := a3_7, fN := a3_8 } : GOwner), ({ fKind := a3_9, fN := a3_10 } : GOwner), ({ fKind := a3_11, fN := a3_12 } : GOwner)⟩ : A4 GOwner) } : GType), fParams := y3.fV, fLocals := y13.fV, fBody := x83, fAt := a3_16 } : GMethod), fV := [], fN := [], fNext := w_i64 (x82 + 1), fF := zGFault } : GGot_ref09)
def ref09_member (a0 : List GToken) (a1 : Int) (a2_0 : List UInt8) (a2_1 : List (List UInt8)) (a2_2 : List UInt8) (a2_3 : List GOwner) (a2_6 : Int) (a3 : Int) (b0 : List GVar) (b1 : List GMethod) : Option ((List UInt8) × (List (List UInt8)) × (List UInt8) × (List GOwner) × (List GVar) × (List GMethod) × Int × (List UInt8) × Bool × Int × (List UInt8) × Int × Int × Int × Int × Int × Int × Int × Int × Int × (List GVar) × (List GVar) × (List GStmt) × Int × (List GVar) × (List (List UInt8)) × Int × Int × Int) :=
 (ref09_tok a0 a1).bind fun y3 =>
 (ref09_is a0 a1 [112, 117, 114, 101]).bind fun (y7 : Bool) =>
 if y7 = true then
 none
 else
 (ref07_Parse a0 a1 a2_1 true).bind fun y12 =>
 if (y12.fF.fErr != 0) then
 none
 else
 (ref09_tok a0 y12.fNext).bind fun y17 =>
 if (y17.fKind != 1) then
 none
 else
 (ref09_is a0 (w_i64 (y12.fNext + 1)) [40]).bind fun (y22 : Bool) =>
 if y22 = true then
 if ((b1.length : Int) == 12) then
 none
 else
 (ref09_method a0 (w_i64 (y12.fNext + 1)) a2_1 y17.fText y7 y12.fT.fKind y12.fT.fClass y12.fT.fN y12.fT.fOwn.a0.fKind y12.fT.fOwn.a0.fN y12.fT.fOwn.a1.fKind y12.fT.fOwn.a1.fN y12.fT.fOwn.a2.fKind y12.fT.fOwn.a2.fN y12.fT.fOwn.a3.fKind y12.fT.fOwn.a3.fN zGMethod.fParams zGMethod.fLocals y3.fAt a3 []).bind fun y28 =>
 if (y28.fF.fErr != 0) then
 none
 else
 (room ((b1.length : Int) + ([y28.fM].length : Int)) 200).bind fun u33 =>
 some (a2_0, a2_1, a2_2, a2_3, b0, (b1 ++ [y28.fM]), a2_6, zGGot_ref09.fM.fName, zGGot_ref09.fM.fPure, zGGot_ref09.fM.fRet.fKind, zGGot_ref09.fM.fRet.fClass, zGGot_ref09.fM.fRet.fN, zGGot_ref09.fM.fRet.fOwn.a0.fKind, zGGot_ref09.fM.fRet.fOwn.a0.fN, zGGot_ref09.fM.fRet.fOwn.a1.fKind, zGGot_ref09.fM.fRet.fOwn.a1.fN, zGGot_ref09.fM.fRet.fOwn.a2.fKind, zGGot_ref09.fM.fRet.fOwn.a2.fN, zGGot_ref09.fM.fRet.fOwn.a3.fKind, zGGot_ref09.fM.fRet.fOwn.a3.fN, zGGot_ref09.fM.fParams, zGGot_ref09.fM.fLocals, [], zGGot_ref09.fM.fAt, zGGot_ref09.fV, zGGot_ref09.fN, y28.fNext, zGGot_ref09.fF.fErr, zGGot_ref09.fF.fAt)
 else
 none
def ref09_class_L1 (a0 : List GToken) (a2 : Int) : Nat → Int → (List UInt8) → (List (List UInt8)) → (List UInt8) → (List GOwner) → (List GVar) → (List GMethod) → Int → Option (Int × (List UInt8) × (List (List UInt8)) × (List UInt8) × (List GOwner) × (List GVar) × (List GMethod) × Int)
 | 0, _, _, _, _, _, _, _, _ => none
 | n + 1, x43, x44, x45, x46, x47, x48, x49, x50 =>
 (ref09_is a0 x43 [125]).bind fun (y75 : Bool) =>
 if (!y75) then
 (ref09_Stmts ({ fName := x44, fParams := x45, fSuper := x46, fAbove := x47, fFields := x48, fMethods := x49, fAt := x50 } : GClass)).bind fun (y82 : Int) =>
 (ref09_member a0 x43 x44 x45 x46 x47 x50 (w_i64 (a2 + y82)) x48 x49).bind fun y84 =>
 if (y84.2.2.2.2.2.2.2.2.2.2.2.2.2.2.2.2.2.2.2.2.2.2.2.2.2.2.2.1 != 0) then
 none
 else
 ref09_class_L1 a0 a2 n y84.2.2.2.2.2.2.2.2.2.2.2.2.2.2.2.2.2.2.2.2.2.2.2.2.2.2.1 y84.1 y84.2.1 y84.2.2.1 y84.2.2.2.1 y84.2.2.2.2.1 y84.2.2.2.2.2.1 y84.2.2.2.2.2.2.1
 else
 some (x43, x44, x45, x46, x47, x48, x49, x50)
def ref09_class (a0 : List GToken) (a1 : Int) (a2 : Int) : Option GGot_ref09 :=
 (ref09_tok a0 a1).bind fun y3 =>
 (ref09_tok a0 (w_i64 (a1 + 1))).bind fun y7 =>
 if (y7.fKind != 1) then
 none
 else
 (ref09_tok a0 (w_i64 (a1 + 1))).bind fun y12 =>
 (ref09_is a0 (w_i64 (a1 + 2)) [60]).bind fun (y16 : Bool) =>
 if y16 = true then
 none
 else
 (ref09_is a0 (w_i64 (a1 + 2)) [101, 120, 116, 101, 110, 100, 115]).bind fun (y21 : Bool) =>
 if y21 = true then
 none
 else
 (ref09_is a0 (w_i64 (a1 + 2)) [123]).bind fun (y26 : Bool) =>
 if (!y26) then
 none
 else
 (ref09_class_L1 a0 a2 (a0.length + 64) (w_i64 ((w_i64 (a1 + 2)) + 1)) y12.fText zGClass.fParams zGClass.fSuper zGClass.fAbove [] [] y3.fAt).bind fun (x95, x96, x97, x98, x99, x100, x101, x102) =>
 some ({ fC := ({ fName := x96, fParams := x97, fSuper := x98, fAbove := x99, fFields := x100, fMethods := x101, fAt := x102 } : GClass), fM := zGMethod, fV := [], fN := [], fNext := w_i64 (x95 + 1), fF := zGFault } : GGot_ref09)
def ref09_Of_L1 (y3 : (List GToken) × GFault) : Nat → (List GClass) → Int → Int → Option ((List GClass))
 | 0, _, _, _ => none
 | n + 1, x30, x31, x32 =>
 (ref09_tok y3.1 x31).bind fun y62 =>
 if (y62.fKind != 0) then
 (ref09_is y3.1 x31 [99, 108, 97, 115, 115]).bind fun (y67 : Bool) =>
 if (!y67) then
 none
 else
 if ((x30.length : Int) == 20) then
 none
 else
 (ref09_class y3.1 x31 x32).bind fun y73 =>
 if (y73.fF.fErr != 0) then
 none
 else
 (room ((x30.length : Int) + ([y73.fC].length : Int)) 136).bind fun u78 =>
 (ref09_Stmts y73.fC).bind fun (y82 : Int) =>
 ref09_Of_L1 y3 n (x30 ++ [y73.fC]) y73.fNext (w_i64 (x32 + y82))
 else
 some x30
def ref09_Of (a0 : List UInt8) : Option ((List GClass) × GFault) :=
 (ref03_Of a0).bind fun y3 =>
 if (y3.2.fErr != 0) then
 none
 else
 (ref09_Of_L1 y3 (a0.length + 64) [] 0 0).bind fun x87 =>
 some (x87, ({ fErr := 0, fAt := 0 } : GFault))
def slices_Grow_api_Var (a1 : Int) : Option (List GVar) :=
 if (decide (a1 < 0)) then
 none
 else
 if (decide ((w_i64 (a1 - (w_i64 (0 - 0)))) > 0)) then
 (zerOk (w_i64 (a1 - (w_i64 (0 - 0)))) 120).bind fun u3 =>
 (cutL (List.replicate (w_i64 (a1 - (w_i64 (0 - 0))) : Int).toNat zGVar) 0 0).bind fun y5 =>
 some y5
 else
 some []
def slices_Concat_api_Var_L1 (a0 : List (List GVar)) : Nat → Int → Int → Option (Int)
 | 0, _, _ => none
 | n + 1, x7, x8 =>
 if (decide (x8 < (a0.length : Int))) then
 (idx a0 x8).bind fun y20 =>
 if (decide ((w_i64 (x7 + (y20.length : Int))) < 0)) then
 none
 else
 slices_Concat_api_Var_L1 a0 n (w_i64 (x7 + (y20.length : Int))) (w_i64 (x8 + 1))
 else
 some x7
def slices_Concat_api_Var_L2 (a0 : List (List GVar)) : Nat → (List GVar) → Int → Option ((List GVar))
 | 0, _, _ => none
 | n + 1, x40, x41 =>
 if (decide (x41 < (a0.length : Int))) then
 (idx a0 x41).bind fun y56 =>
 (room ((x40.length : Int) + (y56.length : Int)) 120).bind fun u60 =>
 slices_Concat_api_Var_L2 a0 n (x40 ++ y56) (w_i64 (x41 + 1))
 else
 some x40
def slices_Concat_api_Var (a0 : List (List GVar)) : Option (List GVar) :=
 (slices_Concat_api_Var_L1 a0 ((a0.length - 0 : Int).toNat + 1) 0 0).bind fun x25 =>
 (slices_Grow_api_Var x25).bind fun y29 =>
 (slices_Concat_api_Var_L2 a0 ((a0.length - 0 : Int).toNat + 1) y29 0).bind fun x64 =>
 some x64
def arena_Vars (a0 : GMethod) : Option (List GVar) :=
 (slices_Concat_api_Var [a0.fParams, a0.fLocals]).bind fun y1 =>
 some y1
def kind_Unique (a0 : GType) : Option Bool :=
 if (a0.fKind == 2) then
 some (a0.fOwn.a0.fKind == 6)
 else
 some false
def flow_made_w_L1 (a2 : GMethod) (y3 : (List GVar)) : Nat → (List (List UInt8)) → Nat → (List UInt8 → Option Int) → Int → Nat → (List UInt8 → Option Int) → Int → Option ((List (List UInt8)) × Nat × (List UInt8 → Option Int) × Int)
 | 0, _, _, _, _, _, _, _ => none
 | n + 1, x49, x50, x51, x52, x53, x54, x55 =>
 if (decide (x55 < (y3.length : Int))) then
 ((idx y3 x55).bind fun y110 =>
 (mget x54 y110.fName).bind fun (y116 : Int) =>
 (mput x53 x54 y110.fName (w_i64 (y116 + 1))).bind fun y118 =>
 ((mget y118 y110.fName).bind fun (y122 : Int) =>
 if (decide (y122 > 1)) then
 some true
 else
 (kind_Unique y110.fType).bind fun y125 =>
 if (!y125) then
 some true
 else
 some ((x49.length : Int) == 63) : Option (Bool)).bind fun x128 =>
 if x128 = true then
 some (x49, x50, x51, x52, y118)
 else
 (mput x50 x51 y110.fName (x49.length : Int)).bind fun y134 =>
 (if (decide (x55 < (a2.fParams.length : Int))) then
 (shlI .u64 1 (x49.length : Int)).bind fun (y137 : Int) =>
 some (orI .u64 x52 y137)
 else
 some x52 : Option (Int)).bind fun x139 =>
 (room ((x49.length : Int) + ([y110.fName].length : Int)) 16).bind fun u142 =>
 some ((x49 ++ [y110.fName]), (x50 + 1), y134, x139, y118) : Option ((List (List UInt8)) × Nat × (List UInt8 → Option Int) × Int × (List UInt8 → Option Int))).bind fun (x144, x145, x146, x147, x148) =>
 flow_made_w_L1 a2 y3 n x144 x145 x146 x147 (x53 + 1) x148 (w_i64 (x55 + 1))
 else
 some (x49, x50, x51, x52)
def flow_made_w (a0 : List GClass) (a1 : GClass) (a2 : GMethod) : Option (Gwalker_flow × Int) :=
 (arena_Vars a2).bind fun y3 =>
 (flow_made_w_L1 a2 y3 ((y3.length - 0 : Int).toNat + 1) [] 0 (fun _ => none) 0 0 (fun _ => none) 0).bind fun (x158, x159, x160, x161) =>
 some (({ fp := a0, fc := a1, fm := a2, fvars := x158, fat := x160, fbad := zGwalker_flow.fbad, fn := zGwalker_flow.fn } : Gwalker_flow), x161)
def __flow_walker__bit (a0 : Gwalker_flow) (a1 : List UInt8) : Option Int :=
 (mgetO a0.fat a1).bind fun y3 =>
 if y3.2 = true then
 (shlI .u64 1 y3.1).bind fun (y6 : Int) =>
 some y6
 else
 some 0
def raise_This_L1 (a0 : GClass) : Nat → (List GOwner) → Int → Option ((List GOwner))
 | 0, _, _ => none
 | n + 1, x10, x11 =>
 if (decide (x11 < ((List.replicate (w_i64 ((a0.fParams.length : Int) + 1) : Int).toNat zGOwner).length : Int))) then
 (idx x10 x11).bind fun y22 =>
 raise_This_L1 a0 n (x10.set (x11 : Int).toNat ({ fKind := 3, fN := x11 } : GOwner)) (w_i64 (x11 + 1))
 else
 some x10
def raise_This (a0 : GClass) : Option (List GOwner) :=
 (mkOk (w_i64 ((a0.fParams.length : Int) + 1)) (w_i64 ((a0.fParams.length : Int) + 1)) 16).bind fun u3 =>
 (raise_This_L1 a0 (((((List.replicate (w_i64 ((a0.fParams.length : Int) + 1) : Int).toNat zGOwner).length : Int) : Int) - (0)).toNat + 1) (List.replicate (w_i64 ((a0.fParams.length : Int) + 1) : Int).toNat zGOwner) 0).bind fun x26 =>
 (idx x26 0).bind fun y28 =>
 some (x26.set (0 : Int).toNat ({ fKind := 2, fN := 0 } : GOwner))
def scope_This (a0 : GClass) : Option GType :=
 (raise_This a0).bind fun y1 =>
 some ({ ({ ({ fKind := 2, fClass := a0.fName, fN := 0, fOwn := (⟨zGOwner, zGOwner, zGOwner, zGOwner⟩ : A4 GOwner) } : GType) with fOwn := (A4.cp (({ fKind := 2, fClass := a0.fName, fN := 0, fOwn := (⟨zGOwner, zGOwner, zGOwner, zGOwner⟩ : A4 GOwner) } : GType).fOwn) y1) } : GType) with fN := w_i64 ((Nat.min (List.map eGOwner y1).length 4 : Nat) - 1) } : GType)
def slices_IndexFunc_api_Var_L1 (a0 : List GVar) (q1 : GVar → Option Bool) : Nat → Int → Option (Ctl (Int) (Unit))
 | 0, _ => none
 | n + 1, x11 =>
 if (decide (x11 < (a0.length : Int))) then
 (idx a0 x11).bind fun y28 =>
 (q1 y28).bind fun y30 =>
 if y30 = true then
 some (.stop x11)
 else
 slices_IndexFunc_api_Var_L1 a0 q1 n (w_i64 (x11 + 1))
 else
 some (.next ())
def slices_IndexFunc_api_Var (a0 : List GVar) (q1 : GVar → Option Bool) : Option Int :=
 (slices_IndexFunc_api_Var_L1 a0 q1 ((a0.length - 0 : Int).toNat + 1) 0).bind fun lr34 =>
 Ctl.elim lr34 (fun v => some v) fun _ =>
 some (-1)
def scope_Place_1 (a0 : GVar) (c0 : List UInt8) : Option Bool :=
 some (a0.fName == c0)
def scope_Place (a0 : GMethod) (a1 : List UInt8) : Option Int :=
 (slices_IndexFunc_api_Var a0.fParams (fun (z4 : GVar) => scope_Place_1 z4 a1)).bind fun (y5 : Int) =>
 if (decide (y5 ≥ 0)) then
 some y5
 else
 (slices_IndexFunc_api_Var a0.fLocals (fun (z11 : GVar) => scope_Place_1 z11 a1)).bind fun (y12 : Int) =>
 if (decide (y12 < 0)) then
 some (-1)
 else
 some (w_i64 ((a0.fParams.length : Int) + y12))
def scope_Type (a0 : GClass) (a1 : GMethod) (a2 : List UInt8) : Option (GType × Bool) :=
 if (a2 == [116, 104, 105, 115]) then
 (scope_This a0).bind fun y2 =>
 some (y2, true)
 else
 (scope_Place a1 a2).bind fun (y6 : Int) =>
 if (decide (y6 < 0)) then
 some (({ fKind := 0, fClass := [], fN := 0, fOwn := (⟨zGOwner, zGOwner, zGOwner, zGOwner⟩ : A4 GOwner) } : GType), false)
 else
 (arena_Vars a1).bind fun y9 =>
 (idx y9 y6).bind fun y11 =>
 some (y11.fType, true)
def fit_must (a0 : Bool) (a1 : Int) : Option Int :=
 if a0 = true then
 some 0
 else
 some a1
def __fit_asker__object_w (b0 : Gasker_fit) : Option (Int × Gasker_fit) :=
 (scope_Type b0.fc b0.fm b0.fs.fY).bind fun y3 =>
 if (!y3.2) then
 some (13, b0)
 else
 if (y3.1.fKind != 2) then
 some (14, ({ b0 with fo := y3.1 } : Gasker_fit))
 else
 if ((({ b0 with fo := y3.1 } : Gasker_fit).fs.fKind) == 4) then
 (fit_must true 22).bind fun (y8 : Int) =>
 some (y8, ({ b0 with fo := y3.1 } : Gasker_fit))
 else
 (kind_Unique y3.1).bind fun y10 =>
 (fit_must (!y10) 22).bind fun (y12 : Int) =>
 some (y12, ({ b0 with fo := y3.1 } : Gasker_fit))
def above_up (a0 : List GClass) (a1 : List UInt8) : Option ((List GClass) × (List UInt8)) :=
 some (a0, a1)
def slices_IndexFunc_api_Class_L1 (a0 : List GClass) (q1 : GClass → Option Bool) : Nat → Int → Option (Ctl (Int) (Unit))
 | 0, _ => none
 | n + 1, x11 =>
 if (decide (x11 < (a0.length : Int))) then
 (idx a0 x11).bind fun y28 =>
 (q1 y28).bind fun y30 =>
 if y30 = true then
 some (.stop x11)
 else
 slices_IndexFunc_api_Class_L1 a0 q1 n (w_i64 (x11 + 1))
 else
 some (.next ())
def slices_IndexFunc_api_Class (a0 : List GClass) (q1 : GClass → Option Bool) : Option Int :=
 (slices_IndexFunc_api_Class_L1 a0 q1 ((a0.length - 0 : Int).toNat + 1) 0).bind fun lr34 =>
 Ctl.elim lr34 (fun v => some v) fun _ =>
 some (-1)
def table_Find_1 (a0 : GClass) (c0 : List UInt8) : Option Bool :=
 some (a0.fName == c0)
def table_Find (a0 : List GClass) (a1 : List UInt8) : Option Int :=
 (slices_IndexFunc_api_Class a0 (fun (z1 : GClass) => table_Find_1 z1 a1)).bind fun (y2 : Int) =>
 some y2
def above_up_1_L1 (c0 : List GClass) (sp : Nat) (rows : List (Int)) : Nat → Nat → (List UInt8) → Int → Option (Ctl (Nat) (Nat))
 | 0, _, _, _ => none
 | n + 1, x19, x20, x21 =>
 if (decide (x21 < (w_i64 ((c0.length : Int) + 1)))) then
 (table_Find c0 x20).bind fun (y46 : Int) =>
 (if (decide (y46 < 0)) then
 some (x19, true)
 else
 (yck rows sp x19 y46).bind fun u49 =>
 some ((x19 + 1), (!(!(x19 == sp)))) : Option (Nat × Bool)).bind fun (x51, x52) =>
 if x52 = true then
 some (.stop x51)
 else
 (idx c0 y46).bind fun y58 =>
 if (y58.fSuper == []) then
 some (.stop x51)
 else
 above_up_1_L1 c0 sp rows n x51 y58.fSuper (w_i64 (x21 + 1))
 else
 some (.next x19)
def above_up_1 (rows : List (Int)) (sp : Nat) (c0 : List GClass) (c1 : List UInt8) : Option Nat :=
 (above_up_1_L1 c0 sp rows ((((w_i64 ((c0.length : Int) + 1)) : Int) - (0)).toNat + 1) 0 c1 0).bind fun lr65 =>
 Ctl.elim lr65 (fun v => some v) fun x64 =>
 some x64
def itR_up_n (p : List GClass) : Nat → List UInt8 → Option (List Int)
 | 0, _ => some []
 | n + 1, name => (table_Find p name).bind fun i =>
 if i < 0 then some [] else
 (idx p i).bind fun c =>
 if c.fSuper == [] then some [i] else
 (itR_up_n p n c.fSuper).bind fun l => some (i :: l)
def itR_up (p : List GClass) (name : List UInt8) : Option (List Int) := if p.length < 9223372036854775806 then itR_up_n p (p.length + 1) name else none
def slices_Index_int_L1 (a0 : List Int) (a1 : Int) : Nat → Int → Option (Ctl (Int) (Unit))
 | 0, _ => none
 | n + 1, x7 =>
 if (decide (x7 < (a0.length : Int))) then
 (idx a0 x7).bind fun (y18 : Int) =>
 if (a1 == y18) then
 some (.stop x7)
 else
 slices_Index_int_L1 a0 a1 n (w_i64 (x7 + 1))
 else
 some (.next ())
def slices_Index_int (a0 : List Int) (a1 : Int) : Option Int :=
 (slices_Index_int_L1 a0 a1 ((a0.length - 0 : Int).toNat + 1) 0).bind fun lr22 =>
 Ctl.elim lr22 (fun v => some v) fun _ =>
 some (-1)
def slices_Contains_int (a0 : List Int) (a1 : Int) : Option Bool :=
 (slices_Index_int a0 a1).bind fun (y1 : Int) =>
 some (decide (y1 ≥ 0))
def above_Chain_B1  : Int → (List Int) → Option (Ctl (List Int) (List Int))
 | x23, x13 =>
 (slices_Contains_int x13 x23).bind fun y26 =>
 if y26 = true then
 some (.stop x13)
 else
 (room ((x13.length : Int) + ([x23].length : Int)) 8).bind fun u29 =>
 some (.next (x13 ++ [x23]))
def above_Chain (a0 : List GClass) (a1 : List UInt8) : Option (List Int) :=
 (above_up a0 a1).bind fun y3 =>
 (itR_up y3.1 y3.2).bind fun (rows33 : List (Int)) =>
 (runs above_Chain_B1 rows33 []).bind fun (lr35 : Ctl (List Int) (List Int)) =>
 Ctl.elim lr35 (fun x32 =>
 some x32) (fun x13 =>
 some x13)
def method_first_1_w (a0 : Gheld_method) (b0 : List UInt8) (b1 : List GClass) (b2 : GFound_method) (b3 : Bool) : Option (Bool × GFound_method × Bool) :=
 if (a0.fMethod.fName == b0) then
 (idx b1 a0.fclass).bind fun y2 =>
 some ((!true), ({ ({ zGFound_method with fClass := y2.fName } : GFound_method) with fMethod := a0.fMethod } : GFound_method), true)
 else
 some ((!b3), b2, b3)
def method_walk_w_L2 (b0 : List UInt8) (b1 : List GClass) (y114 : Int) (y118 : GClass) : Nat → GFound_method → Bool → Int → Option (Ctl (GFound_method × Bool) (GFound_method × Bool))
 | 0, _, _, _ => none
 | n + 1, x130, x131, x132 =>
 if (decide (x132 < (y118.fMethods.length : Int))) then
 (idx y118.fMethods x132).bind fun y149 =>
 (method_first_1_w ({ fMethod := y149, fclass := y114 } : Gheld_method) b0 b1 x130 x131).bind fun y153 =>
 if (!y153.1) then
 some (.stop (y153.2.1, y153.2.2))
 else
 method_walk_w_L2 b0 b1 y114 y118 n y153.2.1 y153.2.2 (w_i64 (x132 + 1))
 else
 some (.next (x130, x131))
def method_walk_w_L1 (a0 : List GClass) (a1 : List Int) (b0 : List UInt8) (b1 : List GClass) : Nat → GFound_method → Bool → Int → Option (Ctl (GFound_method × Bool) (GFound_method × Bool))
 | 0, _, _, _ => none
 | n + 1, x53, x54, x55 =>
 if (decide (x55 < (a1.length : Int))) then
 (idx a1 x55).bind fun (y114 : Int) =>
 (idx a0 y114).bind fun y118 =>
 (method_walk_w_L2 b0 b1 y114 y118 ((y118.fMethods.length - 0 : Int).toNat + 1) x53 x54 0).bind fun lr161 =>
 Ctl.elim lr161 (fun v => some (.stop v)) fun (x159, x160) =>
 method_walk_w_L1 a0 a1 b0 b1 n x159 x160 (w_i64 (x55 + 1))
 else
 some (.next (x53, x54))
def method_walk_w (a0 : List GClass) (a1 : List Int) (b0 : List UInt8) (b1 : List GClass) (b2 : GFound_method) (b3 : Bool) : Option (GFound_method × Bool) :=
 (method_walk_w_L1 a0 a1 b0 b1 ((a1.length - 0 : Int).toNat + 1) b2 b3 0).bind fun lr168 =>
 Ctl.elim lr168 (fun v => some v) fun (x166, x167) =>
 some (x166, x167)
def method_first (a0 : List GClass) (a1 : List Int) (a2 : List UInt8) : Option (GFound_method × Bool) :=
 (method_walk_w a0 a1 a2 a0 ({ fClass := [], fMethod := zGMethod } : GFound_method) false).bind fun y3 =>
 some (y3.1, y3.2)
def method_Find (a0 : List GClass) (a1 : List UInt8) (a2 : List UInt8) : Option (GFound_method × Bool) :=
 (above_Chain a0 a1).bind fun y1 =>
 (method_first a0 y1 a2).bind fun y3 =>
 some (y3.1, y3.2)
def fit_Callee (a0 : List GClass) (a1 : GClass) (a2 : GMethod) (a3 : GStmt) : Option (GFound_method × Bool) :=
 (if (a3.fKind != 4) then
 some (({ fp := a0, fc := a1, fm := a2, fs := a3, fx := zGType, fo := zGType } : Gasker_fit), true)
 else
 (__fit_asker__object_w ({ fp := a0, fc := a1, fm := a2, fs := a3, fx := zGType, fo := zGType } : Gasker_fit)).bind fun y2 =>
 some (y2.2, (y2.1 != 0)) : Option (Gasker_fit × Bool)).bind fun (x4, x5) =>
 if x5 = true then
 some (({ fClass := [], fMethod := zGMethod } : GFound_method), false)
 else
 (method_Find a0 x4.fo.fClass a3.fName).bind fun y9 =>
 some (y9.1, y9.2)
def __flow_walker__takes_L1 (a0 : Gwalker_flow) (a1 : GStmt) (y21 : GFound_method × Bool) : Nat → (List Int) → Int → Option ((List Int))
 | 0, _, _ => none
 | n + 1, x46, x47 =>
 if (decide (x47 < (a1.fArgs.length : Int))) then
 ((idx a1.fArgs x47).bind fun y76 =>
 (if y21.2 = true then
 if (decide (x47 < (y21.1.fMethod.fParams.length : Int))) then
 if (y76.fKind == 2) then
 (idx y21.1.fMethod.fParams x47).bind fun y81 =>
 (kind_Unique y81.fType).bind fun y83 =>
 some y83
 else
 some false
 else
 some false
 else
 some false : Option (Bool)).bind fun x85 =>
 if x85 = true then
 (__flow_walker__bit a0 y76.fName).bind fun (y89 : Int) =>
 (room ((x46.length : Int) + ([y89].length : Int)) 8).bind fun u91 =>
 some (x46 ++ [y89])
 else
 some x46 : Option ((List Int))).bind fun x93 =>
 __flow_walker__takes_L1 a0 a1 y21 n x93 (w_i64 (x47 + 1))
 else
 some x46
def __flow_walker__takes (a0 : Gwalker_flow) (a1 : GStmt) : Option (List Int) :=
 (if (a1.fKind == 7) then
 some (a1.fKind == 7)
 else
 some (a1.fKind == 8) : Option (Bool)).bind fun x2 =>
 if x2 = true then
 (__flow_walker__bit a0 a1.fY).bind fun (y6 : Int) =>
 some [y6]
 else
 if (a1.fKind == 11) then
 (if (a1.fE.fKind == 2) then
 (kind_Unique a0.fm.fRet).bind fun y10 =>
 some y10
 else
 some false : Option (Bool)).bind fun x12 =>
 if x12 = true then
 (__flow_walker__bit a0 a1.fE.fName).bind fun (y16 : Int) =>
 some [y16]
 else
 some []
 else
 if (a1.fKind == 4) then
 (fit_Callee a0.fp a0.fc a0.fm a1).bind fun y21 =>
 (__flow_walker__takes_L1 a0 a1 y21 ((a1.fArgs.length - 0 : Int).toNat + 1) [] 0).bind fun x98 =>
 some x98
 else
 some []
def __flow_walker__step_L1 (y3 : (List Int)) : Nat → Int → Int → Int → Option (Int × Int)
 | 0, _, _, _ => none
 | n + 1, x14, x15, x16 =>
 if (decide (x16 < (y3.length : Int))) then
 (idx y3 x16).bind fun (y32 : Int) =>
 (if ((andI .u64 x14 y32) != y32) then
 some 1
 else
 some x15 : Option (Int)).bind fun x35 =>
 __flow_walker__step_L1 y3 n (notI .u64 x14 y32) x35 (w_i64 (x16 + 1))
 else
 some (x14, x15)
def __flow_walker__step (a0 : Gwalker_flow) (a1 : GStmt) (a2 : Int) : Option (Int × Int) :=
 (__flow_walker__takes a0 a1).bind fun y3 =>
 (__flow_walker__step_L1 y3 ((y3.length - 0 : Int).toNat + 1) a2 0 0).bind fun (x41, x42) =>
 ((__flow_walker__bit a0 a1.fY).bind fun (y47 : Int) =>
 (if (a1.fKind == 4) then
 some ((andI .u64 x41 y47) != y47)
 else
 some false : Option (Bool)).bind fun x50 =>
 if x50 = true then
 some 1
 else
 some x42 : Option (Int)).bind fun x54 =>
 (__flow_walker__bit a0 a1.fX).bind fun (y59 : Int) =>
 if (a1.fKind == 1) then
 some (notI .u64 x41 y59, x54)
 else
 some (orI .u64 x41 y59, x54)
def __flow_walker__loop_w_L1 (a1 : GStmt) (b0 : Gwalker_flow) (__flow_walker__body_w_rec : (List GStmt) → Int → Bool → Gwalker_flow → Option (Int × Gwalker_flow)) : Nat → Gwalker_flow → Int → Option (Gwalker_flow × Int)
 | 0, _, _ => none
 | n + 1, x6, x7 =>
 (__flow_walker__body_w_rec a1.fBody x7 false ({ x6 with fn := b0.fn } : Gwalker_flow)).bind fun y17 =>
 if ((andI .u64 x7 y17.1) == x7) then
 some (y17.2, x7)
 else
 __flow_walker__loop_w_L1 a1 b0 __flow_walker__body_w_rec n y17.2 (andI .u64 x7 y17.1)
def __flow_walker__loop_w (__flow_walker__body_w_rec : (List GStmt) → Int → Bool → Gwalker_flow → Option (Int × Gwalker_flow)) (a1 : GStmt) (a2 : Int) (a3 : Bool) (b0 : Gwalker_flow) : Option (Int × Gwalker_flow) :=
 (__flow_walker__loop_w_L1 a1 b0 __flow_walker__body_w_rec 66 b0 a2).bind fun (x22, x23) =>
 (__flow_walker__body_w_rec a1.fBody x23 a3 ({ x22 with fn := b0.fn } : Gwalker_flow)).bind fun y26 =>
 some (x23, y26.2)
def __flow_walker__body_w_L1 (a1 : List GStmt) (a3 : Bool) (__flow_walker__body_w_rec : (List GStmt) → Int → Bool → Gwalker_flow → Option (Int × Gwalker_flow)) : Nat → Gwalker_flow → Int → Int → Option (Gwalker_flow × Int)
 | 0, _, _, _ => none
 | n + 1, x41, x42, x43 =>
 if (decide (x43 < (a1.length : Int))) then
 ((idx a1 x43).bind fun y90 =>
 (__flow_walker__step ({ x41 with fn := w_i64 (x41.fn + 1) } : Gwalker_flow) y90 x42).bind fun y94 =>
 ((if (y94.2 == 1) then
 if (x42 != 18446744073709551615) then
 if a3 = true then
 some (decide ((({ x41 with fn := w_i64 (x41.fn + 1) } : Gwalker_flow).fbad) < 0))
 else
 some false
 else
 some false
 else
 some false : Option (Bool)).bind fun x99 =>
 if x99 = true then
 some ({ ({ x41 with fn := w_i64 (x41.fn + 1) } : Gwalker_flow) with fbad := x41.fn } : Gwalker_flow)
 else
 some ({ x41 with fn := w_i64 (x41.fn + 1) } : Gwalker_flow) : Option (Gwalker_flow)).bind fun x103 =>
 (if (x42 == 18446744073709551615) then
 some 18446744073709551615
 else
 some y94.1 : Option (Int)).bind fun x107 =>
 if (y90.fKind == 11) then
 some (x103, 18446744073709551615)
 else
 if (y90.fKind == 9) then
 (__flow_walker__body_w_rec y90.fBody x107 a3 x103).bind fun y114 =>
 (__flow_walker__body_w_rec y90.fElse x107 a3 y114.2).bind fun y118 =>
 some (y118.2, andI .u64 y114.1 y118.1)
 else
 if (y90.fKind == 10) then
 (__flow_walker__loop_w __flow_walker__body_w_rec y90 x107 a3 x103).bind fun y121 =>
 some (y121.2, y121.1)
 else
 some (x103, x107) : Option (Gwalker_flow × Int)).bind fun (x123, x124) =>
 __flow_walker__body_w_L1 a1 a3 __flow_walker__body_w_rec n x123 x124 (w_i64 (x43 + 1))
 else
 some (x41, x42)
def __flow_walker__body_w : Nat → (List GStmt) → Int → Bool → Gwalker_flow → Option (Int × Gwalker_flow)
 | 0, _, _, _, _ => none
 | n + 1, a1, a2, a3, b0 =>
 (__flow_walker__body_w_L1 a1 a3 (__flow_walker__body_w n) ((a1.length - 0 : Int).toNat + 1) b0 a2 0).bind fun (x130, x131) =>
 some (x131, x130)
def flow_walk_w (a0 : List GClass) (a1 : GClass) (a2 : GMethod) : Option (Gwalker_flow × Int) :=
 (flow_made_w a0 a1 a2).bind fun y3 =>
 (__flow_walker__body_w (mLGStmt a2.fBody + 1) a2.fBody y3.2 true ({ y3.1 with fbad := (-1) } : Gwalker_flow)).bind fun y5 =>
 some (y5.2, y5.1)
def arena_body (a0 : GMethod) : Option GMethod :=
 some a0
def arena_inner_y_L1 (a0 : List GStmt) (a1 : Int) (sp : Nat) (rows : List (Int × GStmt)) (arena_inner_y_rec : Nat → (List GStmt) → Int → Option (Bool × Nat)) : Nat → Nat → Int → Option (Ctl (Bool × Nat) (Nat))
 | 0, _, _ => none
 | n + 1, x25, x26 =>
 if (decide (x26 < (a0.length : Int))) then
 ((idx a0 x26).bind fun y58 =>
 (yck rows sp x25 (a1, y58)).bind fun u60 =>
 if (!(!(x25 == sp))) then
 some ((x25 + 1), true)
 else
 (idx a0 x26).bind fun y63 =>
 (arena_inner_y_rec (x25 + 1) y63.fBody (w_i64 (a1 + 1))).bind fun y65 =>
 if (!y65.1) then
 some (y65.2, true)
 else
 (idx a0 x26).bind fun y68 =>
 (arena_inner_y_rec y65.2 y68.fElse (w_i64 (a1 + 1))).bind fun y70 =>
 some (y70.2, (!y70.1)) : Option (Nat × Bool)).bind fun (x72, x73) =>
 if x73 = true then
 some (.stop (false, x72))
 else
 arena_inner_y_L1 a0 a1 sp rows arena_inner_y_rec n x72 (w_i64 (x26 + 1))
 else
 some (.next x25)
def arena_inner_y (rows : List (Int × GStmt)) (sp : Nat) : Nat → Nat → (List GStmt) → Int → Option (Bool × Nat)
 | 0, _, _, _ => none
 | n + 1, k0, a0, a1 =>
 (arena_inner_y_L1 a0 a1 sp rows (arena_inner_y rows sp n) ((a0.length - 0 : Int).toNat + 1) k0 0).bind fun lr80 =>
 Ctl.elim lr80 (fun v => some v) fun x79 =>
 some (true, x79)
def arena_body_1 (rows : List (Int × GStmt)) (sp : Nat) (c0 : GMethod) : Option Nat :=
 (arena_inner_y rows sp (mLGStmt c0.fBody + 1) 0 c0.fBody 0).bind fun y1 =>
 some y1.2
mutual
def preS (d : Int) : GStmt → List (Int × GStmt)
 | ⟨z0, z1, z2, z3, z4, z5, z6, z7, z8, z9⟩ => (d, ⟨z0, z1, z2, z3, z4, z5, z6, z7, z8, z9⟩) :: (preSL (d + 1) z7 ++ preSL (d + 1) z8)
def preSL (d : Int) : List GStmt → List (Int × GStmt)
 | [] => []
 | x :: l => preS d x ++ preSL d l
end
def itR_stmts (m : GMethod) : Option (List (Int × GStmt)) := if mLGStmt m.fBody ≤ 1000000 then some (preSL 0 m.fBody) else none
def arena_Stmts_B3 (x111 : Int) (x261 : Int) : Int × GStmt → (List GLine_arena) → Option (Ctl Unit (List GLine_arena))
 | (x315, x316), x309 =>
 (room ((x309.length : Int) + ([({ fClass := x111, fMethod := x261, fDeep := x315, fS := x316 } : GLine_arena)].length : Int)) 312).bind fun u317 =>
 some (.next (x309 ++ [({ fClass := x111, fMethod := x261, fDeep := x315, fS := x316 } : GLine_arena)]))
def arena_Stmts_L2 (x111 : Int) (y226 : GClass) : Nat → (List GLine_arena) → Int → Option ((List GLine_arena))
 | 0, _, _ => none
 | n + 1, x260, x261 =>
 if (decide (x261 < (y226.fMethods.length : Int))) then
 (idx y226.fMethods x261).bind fun y299 =>
 (arena_body y299).bind fun y303 =>
 (itR_stmts y303).bind fun (rows320 : List (Int × GStmt)) =>
 (runs (arena_Stmts_B3 x111 x261) rows320 x260).bind fun (lr322 : Ctl Unit (List GLine_arena)) =>
 Ctl.elim lr322 (fun _ => none) (fun x309 =>
 arena_Stmts_L2 x111 y226 n x309 (w_i64 (x261 + 1)))
 else
 some x260
def arena_Stmts_L1 (a0 : List GClass) : Nat → (List GLine_arena) → Int → Option ((List GLine_arena))
 | 0, _, _ => none
 | n + 1, x110, x111 =>
 if (decide (x111 < (a0.length : Int))) then
 (idx a0 x111).bind fun y226 =>
 (arena_Stmts_L2 x111 y226 ((y226.fMethods.length - 0 : Int).toNat + 1) x110 0).bind fun x330 =>
 arena_Stmts_L1 a0 n x330 (w_i64 (x111 + 1))
 else
 some x110
def arena_Stmts (a0 : List GClass) : Option (List GLine_arena) :=
 (arena_Stmts_L1 a0 ((a0.length - 0 : Int).toNat + 1) [] 0).bind fun x334 =>
 some x334
def flow_Method (a0 : List GClass) (a1 : GClass) (a2 : GMethod) : Option GFault :=
 (flow_walk_w a0 a1 a2).bind fun y3 =>
 if (decide (y3.1.fbad < 0)) then
 some ({ fErr := 0, fAt := 0 } : GFault)
 else
 (arena_Stmts [({ fName := [], fParams := [], fSuper := [], fAbove := [], fFields := [], fMethods := [a2], fAt := 0 } : GClass)]).bind fun y6 =>
 (idx y6 y3.1.fbad).bind fun y8 =>
 some ({ fErr := 21, fAt := y8.fS.fAt } : GFault)
def flow_Check_L2 (a0 : List GClass) (y80 : GClass) : Nat → Option (Ctl (GFault) (Unit))
 | 0 => none
 | n + 1 =>
 if (decide (0 < (y80.fMethods.length : Int))) then
 (idx y80.fMethods 0).bind fun y105 =>
 (flow_Method a0 y80 y105).bind fun y109 =>
 if (y109.fErr != 0) then
 some (.stop y109)
 else
 none
 else
 some (.next ())
def flow_Check_L1 (a0 : List GClass) : Nat → Int → Option (Ctl (GFault) (Unit))
 | 0, _ => none
 | n + 1, x38 =>
 if (decide (x38 < (a0.length : Int))) then
 (idx a0 x38).bind fun y80 =>
 (flow_Check_L2 a0 y80 ((y80.fMethods.length - 0 : Int).toNat + 1)).bind fun lr112 =>
 Ctl.elim lr112 (fun v => some (.stop v)) fun _ =>
 flow_Check_L1 a0 n (w_i64 (x38 + 1))
 else
 some (.next ())
def flow_Check (a0 : List GClass) : Option GFault :=
 (flow_Check_L1 a0 ((a0.length - 0 : Int).toNat + 1) 0).bind fun lr115 =>
 Ctl.elim lr115 (fun v => some v) fun _ =>
 some ({ fErr := 0, fAt := 0 } : GFault)
def law23_awake  : Option Bool :=
 (ref09_Of [99, 108, 97, 115, 115, 32, 65, 32, 123, 32, 118, 111, 105, 100, 32, 109, 40, 105, 110, 116, 32, 110, 41, 32, 123, 32, 117, 110, 105, 113, 117, 101, 32, 65, 32, 117, 59, 32, 117, 32, 61, 32, 110, 101, 119, 32, 117, 110, 105, 113, 117, 101, 32, 65, 59, 32, 105, 102, 32, 40, 110, 41, 32, 123, 32, 100, 101, 108, 101, 116, 101, 32, 117, 59, 32, 125, 32, 100, 101, 108, 101, 116, 101, 32, 117, 59, 32, 125, 32, 125]).bind fun (y3 : (List GClass) × GFault) =>
 (flow_Check y3.1).bind fun y5 =>
 some (bGFault y5 ({ fErr := 21, fAt := 77 } : GFault))
def ref12_Vars (a0 : GMethod) : Option (List GVar) :=
 (room ((([] : List GVar).length : Int) + (a0.fParams.length : Int)) 120).bind fun u1 =>
 (room (((([] : List GVar) ++ a0.fParams).length : Int) + (a0.fLocals.length : Int)) 120).bind fun u3 =>
 some ((([] : List GVar) ++ a0.fParams) ++ a0.fLocals)
def ref05_Unique (a0 : GType) : Option Bool :=
 if (a0.fKind == 2) then
 some (a0.fOwn.a0.fKind == 6)
 else
 some false
def ref18_Place_L1 (a1 : List UInt8) (y3 : (List GVar)) : Nat → Int → Option (Ctl (Int) (Unit))
 | 0, _ => none
 | n + 1, x11 =>
 if (decide (x11 < (y3.length : Int))) then
 (idx y3 x11).bind fun y22 =>
 if (y22.fName == a1) then
 some (.stop x11)
 else
 ref18_Place_L1 a1 y3 n (w_i64 (x11 + 1))
 else
 some (.next ())
def ref18_Place (a0 : GMethod) (a1 : List UInt8) : Option Int :=
 (ref12_Vars a0).bind fun y3 =>
 (ref18_Place_L1 a1 y3 ((y3.length - 0 : Int).toNat + 1) 0).bind fun lr26 =>
 Ctl.elim lr26 (fun v => some v) fun _ =>
 some (-1)
def ref23_Uniques_L1 (a0 : GMethod) (y3 : (List GVar)) : Nat → (List Int) → Int → Option ((List Int))
 | 0, _, _ => none
 | n + 1, x28, x29 =>
 if (decide (x29 < (y3.length : Int))) then
 (((idx y3 x29).bind fun y60 =>
 (ref05_Unique y60.fType).bind fun y62 =>
 if y62 = true then
 (idx y3 x29).bind fun y65 =>
 (ref18_Place a0 y65.fName).bind fun (y67 : Int) =>
 some (y67 == x29)
 else
 some false : Option (Bool)).bind fun x69 =>
 if x69 = true then
 (room ((x28.length : Int) + ([x29].length : Int)) 8).bind fun u73 =>
 some (x28 ++ [x29])
 else
 some x28 : Option ((List Int))).bind fun x75 =>
 ref23_Uniques_L1 a0 y3 n x75 (w_i64 (x29 + 1))
 else
 some x28
def ref23_Uniques (a0 : GMethod) : Option (List Int) :=
 (ref12_Vars a0).bind fun y3 =>
 (ref23_Uniques_L1 a0 y3 ((y3.length - 0 : Int).toNat + 1) [] 0).bind fun x80 =>
 some x80
def __flow_walker__names_L1 (a0 : Gwalker_flow) (a1 : Int) : Nat → (List (List UInt8)) → Int → Option ((List (List UInt8)))
 | 0, _, _ => none
 | n + 1, x16, x17 =>
 if (decide (x17 < (a0.fvars.length : Int))) then
 ((idx a0.fvars x17).bind fun y38 =>
 (__flow_walker__bit a0 y38).bind fun (y42 : Int) =>
 if ((andI .u64 a1 y42) != 0) then
 (room ((x16.length : Int) + ([y38].length : Int)) 16).bind fun u45 =>
 some (x16 ++ [y38])
 else
 some x16 : Option ((List (List UInt8)))).bind fun x47 =>
 __flow_walker__names_L1 a0 a1 n x47 (w_i64 (x17 + 1))
 else
 some x16
def __flow_walker__names (a0 : Gwalker_flow) (a1 : Int) : Option (List (List UInt8)) :=
 (__flow_walker__names_L1 a0 a1 ((a0.fvars.length - 0 : Int).toNat + 1) [] 0).bind fun x52 =>
 some x52
def flow_Stmt_L1 (a4 : List (List UInt8)) (y3 : Gwalker_flow × Int) : Nat → Int → Int → Option (Int)
 | 0, _, _ => none
 | n + 1, x14, x15 =>
 if (decide (x15 < (a4.length : Int))) then
 (idx a4 x15).bind fun y30 =>
 (__flow_walker__bit y3.1 y30).bind fun (y34 : Int) =>
 flow_Stmt_L1 a4 y3 n (orI .u64 x14 y34) (w_i64 (x15 + 1))
 else
 some x14
def flow_Stmt (a0 : List GClass) (a1 : GClass) (a2 : GMethod) (a3 : GStmt) (a4 : List (List UInt8)) : Option ((List (List UInt8)) × Bool) :=
 (flow_made_w a0 a1 a2).bind fun y3 =>
 (flow_Stmt_L1 a4 y3 ((a4.length - 0 : Int).toNat + 1) 0 0).bind fun x38 =>
 (__flow_walker__step y3.1 a3 x38).bind fun y42 =>
 if (y42.2 == 1) then
 some ([], false)
 else
 (__flow_walker__names y3.1 y42.1).bind fun y45 =>
 some (y45, true)
def law23_turn (a0 : GWay_law23) : Option (Bool × GWay_law23) :=
 if ((a0.fTurns.length : Int) == 0) then
 some (false, a0)
 else
 (idx a0.fTurns 0).bind fun y4 =>
 (cutL a0.fTurns 1 a0.fTurns.length).bind fun y8 =>
 some (y4, ({ a0 with fTurns := y8 } : GWay_law23))
def law23_walk_L2 (a0 : GPlace_ref20) (y157 : GStmt) (law23_walk_rec : GPlace_ref20 → (List GStmt) → GWay_law23 → Option GWay_law23) : Nat → GWay_law23 → Option (GWay_law23)
 | 0, _ => none
 | n + 1, x190 =>
 (if (y157.fKind == 10) then
 if (!x190.fBack) then
 some x190.fFine
 else
 some false
 else
 some false : Option (Bool)).bind fun x207 =>
 if x207 = true then
 (law23_turn x190).bind fun y213 =>
 if (!y213.1) then
 some y213.2
 else
 (law23_walk_rec a0 y157.fBody y213.2).bind fun y216 =>
 law23_walk_L2 a0 y157 law23_walk_rec n y216
 else
 some x190
def law23_walk_L1 (a0 : GPlace_ref20) (a1 : List GStmt) (a2 : GWay_law23) (law23_walk_rec : GPlace_ref20 → (List GStmt) → GWay_law23 → Option GWay_law23) : Nat → GWay_law23 → Int → Option (Ctl (GWay_law23) (GWay_law23))
 | 0, _, _ => none
 | n + 1, x73, x74 =>
 (if (decide (x74 < (a1.length : Int))) then
 if (!x73.fBack) then
 some x73.fFine
 else
 some false
 else
 some false : Option (Bool)).bind fun x151 =>
 if x151 = true then
 (idx a1 x74).bind fun y157 =>
 (flow_Stmt a0.fP a0.fC a0.fM y157 x73.fThere).bind fun y161 =>
 if (!y161.2) then
 some (.stop ({ x73 with fFine := false } : GWay_law23))
 else
 (if (y157.fKind == 9) then
 (law23_turn ({ ({ x73 with fThere := y161.1 } : GWay_law23) with fBack := (y157.fKind == 11) } : GWay_law23)).bind fun y167 =>
 if y167.1 = true then
 (law23_walk_rec a0 y157.fBody y167.2).bind fun y170 =>
 some y170
 else
 (law23_walk_rec a0 y157.fElse y167.2).bind fun y172 =>
 some y172
 else
 some ({ ({ x73 with fThere := y161.1 } : GWay_law23) with fBack := (y157.fKind == 11) } : GWay_law23) : Option (GWay_law23)).bind fun x174 =>
 (law23_walk_L2 a0 y157 law23_walk_rec (a2.fTurns.length + 2) x174).bind fun x219 =>
 law23_walk_L1 a0 a1 a2 law23_walk_rec n x219 (w_i64 (x74 + 1))
 else
 some (.next x73)
def law23_walk : Nat → GPlace_ref20 → (List GStmt) → GWay_law23 → Option GWay_law23
 | 0, _, _, _ => none
 | n + 1, a0, a1, a2 =>
 (law23_walk_L1 a0 a1 a2 (law23_walk n) (a1.length + 1) a2 0).bind fun lr224 =>
 Ctl.elim lr224 (fun v => some v) fun x223 =>
 some x223
def flow_End (a0 : List GClass) (a1 : GClass) (a2 : GMethod) : Option ((List (List UInt8)) × Bool) :=
 (flow_walk_w a0 a1 a2).bind fun y3 =>
 (if (decide (y3.1.fbad ≥ 0)) then
 some true
 else
 some (y3.2 == 18446744073709551615) : Option (Bool)).bind fun x6 =>
 if x6 = true then
 some ([], false)
 else
 (__flow_walker__names y3.1 y3.2).bind fun y10 =>
 some (y10, true)
def law23_FlowWays_L3 (a0 : List GClass) (y1727 : GClass) (y1731 : GMethod) (y1740 : (List Int)) (y1744 : (List GVar)) : Nat → (List (List UInt8)) → Int → Option ((List (List UInt8)))
 | 0, _, _ => none
 | n + 1, x1761, x1762 =>
 if (decide (x1762 < (y1740.length : Int))) then
 ((idx y1740 x1762).bind fun (y1783 : Int) =>
 if (decide (y1783 < ((({ fP := a0, fC := y1727, fM := y1731 } : GPlace_ref20).fM.fParams).length : Int))) then
 (idx y1740 x1762).bind fun (y1786 : Int) =>
 (idx y1744 y1786).bind fun y1788 =>
 (room ((x1761.length : Int) + ([y1788.fName].length : Int)) 16).bind fun u1790 =>
 some (x1761 ++ [y1788.fName])
 else
 some x1761 : Option ((List (List UInt8)))).bind fun x1792 =>
 law23_FlowWays_L3 a0 y1727 y1731 y1740 y1744 n x1792 (w_i64 (x1762 + 1))
 else
 some x1761
def law23_FlowWays_L5 (x1847 : Int) (y1801 : GWay_law23) (y1806 : (List (List UInt8)) × Bool) : Nat → Bool → Int → Option (Bool)
 | 0, _, _ => none
 | n + 1, x1896, x1897 =>
 if (decide (x1897 < (y1801.fThere.length : Int))) then
 (if x1896 = true then
 some true
 else
 (idx y1801.fThere x1897).bind fun y1911 =>
 (idx y1806.1 x1847).bind fun y1913 =>
 some (y1911 == y1913) : Option (Bool)).bind fun x1915 =>
 law23_FlowWays_L5 x1847 y1801 y1806 n x1915 (w_i64 (x1897 + 1))
 else
 some x1896
def law23_FlowWays_L4 (y1801 : GWay_law23) (y1806 : (List (List UInt8)) × Bool) : Nat → Int → Option (Ctl (Bool) (Unit))
 | 0, _ => none
 | n + 1, x1847 =>
 if (decide (x1847 < (y1806.1.length : Int))) then
 (law23_FlowWays_L5 x1847 y1801 y1806 ((y1801.fThere.length - 0 : Int).toNat + 1) false 0).bind fun x1920 =>
 if (!x1920) then
 some (.stop false)
 else
 law23_FlowWays_L4 y1801 y1806 n (w_i64 (x1847 + 1))
 else
 some (.next ())
def law23_FlowWays_L2 (a0 : List GClass) (a1 : List Bool) (x653 : Int) : Nat → Int → Option (Ctl (Bool) (Unit))
 | 0, _ => none
 | n + 1, x1504 =>
 (idx a0 x653).bind fun y1718 =>
 if (decide (x1504 < (y1718.fMethods.length : Int))) then
 Ctl.go (obind (idx a0 x653) fun (y1727 : GClass) =>
 obind (idx a0 x653) fun (y1729 : GClass) =>
 obind (idx y1729.fMethods x1504) fun (y1731 : GMethod) =>
 obind (flow_Method a0 (({ fP := a0, fC := y1727, fM := y1731 } : GPlace_ref20).fC) (({ fP := a0, fC := y1727, fM := y1731 } : GPlace_ref20).fM)) fun (y1735 : GFault) =>
 if (y1735.fErr != 0) then
 .next ()
 else
 obind (ref23_Uniques (({ fP := a0, fC := y1727, fM := y1731 } : GPlace_ref20).fM)) fun (y1740 : (List Int)) =>
 obind (ref12_Vars (({ fP := a0, fC := y1727, fM := y1731 } : GPlace_ref20).fM)) fun (y1744 : (List GVar)) =>
 obind (law23_FlowWays_L3 a0 y1727 y1731 y1740 y1744 ((y1740.length - 0 : Int).toNat + 1) [] 0) fun x1797 =>
 obind (law23_walk (mGPlace_ref20 ({ fP := a0, fC := y1727, fM := y1731 } : GPlace_ref20) + mLGStmt (({ fP := a0, fC := y1727, fM := y1731 } : GPlace_ref20).fM.fBody) + 1) ({ fP := a0, fC := y1727, fM := y1731 } : GPlace_ref20) (({ fP := a0, fC := y1727, fM := y1731 } : GPlace_ref20).fM.fBody) ({ fThere := x1797, fTurns := a1, fBack := false, fFine := true } : GWay_law23)) fun (y1801 : GWay_law23) =>
 if (!y1801.fFine) then
 .stop (some (.stop false))
 else
 obind (flow_End a0 (({ fP := a0, fC := y1727, fM := y1731 } : GPlace_ref20).fC) (({ fP := a0, fC := y1727, fM := y1731 } : GPlace_ref20).fM)) fun (y1806 : (List (List UInt8)) × Bool) =>
 if y1801.fBack = true then
 .next ()
 else
 if (!y1806.2) then
 .stop (some (.stop false))
 else
 obind (law23_FlowWays_L4 y1801 y1806 ((y1806.1.length - 0 : Int).toNat + 1) 0) fun lr1924 =>
 Ctl.elim lr1924 (fun v => .stop (some (.stop v))) fun _ =>
 .next () : Ctl (Option (Ctl (Bool) (Unit))) (Unit)) fun _ =>
 law23_FlowWays_L2 a0 a1 x653 n (w_i64 (x1504 + 1))
 else
 some (.next ())
def law23_FlowWays_L1 (a0 : List GClass) (a1 : List Bool) : Nat → Int → Option (Ctl (Bool) (Unit))
 | 0, _ => none
 | n + 1, x653 =>
 if (decide (x653 < (a0.length : Int))) then
 (law23_FlowWays_L2 a0 a1 x653 (Option.getD ((idx a0 x653).bind fun y1929 => some ((y1929.fMethods.length - 0 : Int).toNat + 1)) 1) 0).bind fun lr1927 =>
 Ctl.elim lr1927 (fun v => some (.stop v)) fun _ =>
 law23_FlowWays_L1 a0 a1 n (w_i64 (x653 + 1))
 else
 some (.next ())
def law23_FlowWays (a0 : List GClass) (a1 : List Bool) : Option Bool :=
 ((ref10_Heavy a0).bind fun y3 =>
 if y3 = true then
 some true
 else
 (ref10_Right a0).bind fun y6 =>
 if (!y6) then
 some true
 else
 some (decide ((a1.length : Int) > 100)) : Option (Bool)).bind fun x9 =>
 if x9 = true then
 Option.bind law23_awake fun (y13 : Bool) =>
 some y13
 else
 (law23_FlowWays_L1 a0 a1 ((a0.length - 0 : Int).toNat + 1) 0).bind fun lr1932 =>
 Ctl.elim lr1932 (fun v => some v) fun _ =>
 Option.bind law23_awake fun (y1934 : Bool) =>
 some y1934
end
end Go.Proofs.YthhdlpggmmfaiaaGreat
