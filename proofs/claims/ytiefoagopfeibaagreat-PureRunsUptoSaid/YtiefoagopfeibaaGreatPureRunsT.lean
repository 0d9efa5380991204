/- A part of the proof that the law PureRuns gives true for every input. -/
import Derived.Test.YtiefoagopfeibaaGreatProg
import Derived.Test.YtiefoagopfeibaaGreatPureRunsA4
import Derived.Test.YtiefoagopfeibaaGreatPureRunsX
/- The types and the plain functions. -/
namespace Go.Proofs.YtiefoagopfeibaaGreat
open Go.RowKit Go.Abs
noncomputable section
structure GOwner where
 fKind : Int
 fN : Int
 deriving DecidableEq
abbrev zGOwner : GOwner := ({ fKind := 0, fN := 0 } : GOwner)
abbrev eGOwner (x : GOwner) : List PV := [.int .i64 x.fKind, .int .i64 x.fN]
structure GType where
 fKind : Int
 fClass : List UInt8
 fN : Int
 fOwn : A4 GOwner
 deriving DecidableEq
abbrev zGType : GType := ({ fKind := 0, fClass := [], fN := 0, fOwn := (⟨zGOwner, zGOwner, zGOwner, zGOwner⟩ : A4 GOwner) } : GType)
abbrev eGType (x : GType) : List PV := [.int .i64 x.fKind, .str x.fClass, .int .i64 x.fN, .int .i64 x.fOwn.a0.fKind, .int .i64 x.fOwn.a0.fN, .int .i64 x.fOwn.a1.fKind, .int .i64 x.fOwn.a1.fN, .int .i64 x.fOwn.a2.fKind, .int .i64 x.fOwn.a2.fN, .int .i64 x.fOwn.a3.fKind, .int .i64 x.fOwn.a3.fN]
structure GVar where
 fName : List UInt8
 fType : GType
 fAt : Int
 deriving DecidableEq
abbrev zGVar : GVar := ({ fName := [], fType := zGType, fAt := 0 } : GVar)
abbrev eGVar (x : GVar) : List PV := [.str x.fName, .int .i64 x.fType.fKind, .str x.fType.fClass, .int .i64 x.fType.fN, .int .i64 x.fType.fOwn.a0.fKind, .int .i64 x.fType.fOwn.a0.fN, .int .i64 x.fType.fOwn.a1.fKind, .int .i64 x.fType.fOwn.a1.fN, .int .i64 x.fType.fOwn.a2.fKind, .int .i64 x.fType.fOwn.a2.fN, .int .i64 x.fType.fOwn.a3.fKind, .int .i64 x.fType.fOwn.a3.fN, .int .i64 x.fAt]
structure GExpr where
 fKind : Int
 fNum : Int
 fName : List UInt8
 fKids : List GExpr
abbrev zGExpr : GExpr := ({ fKind := 0, fNum := 0, fName := [], fKids := [] } : GExpr)
mutual
def rGExpr : GExpr → List PV
 | ⟨z0, z1, z2, z3⟩ => [.int .i64 z0, .int .i64 z1, .str z2, .vs 4 (eLGExpr z3)]
def eLGExpr : List GExpr → List (List PV)
 | [] => []
 | x :: l => rGExpr x :: eLGExpr l
end
abbrev eGExpr (x : GExpr) : List PV := [.int .i64 x.fKind, .int .i64 x.fNum, .str x.fName, .vs 4 (eLGExpr x.fKids)]
theorem rGExpr_eq (x : GExpr) : rGExpr x = eGExpr x := by cases x; simp only [rGExpr]
theorem eLGExpr_map : ∀ l : List GExpr, eLGExpr l = l.map eGExpr
 | [] => by simp only [eLGExpr, List.map_nil]
 | x :: l => by simp only [eLGExpr, List.map_cons, rGExpr_eq, eLGExpr_map l]
mutual
def mGExpr : GExpr → Nat
 | ⟨_, _, _, z3⟩ => 1 + mLGExpr z3
def mLGExpr : List GExpr → Nat
 | [] => 0
 | x :: l => mGExpr x + mLGExpr l
end
structure GStmt where
 fKind : Int
 fX : List UInt8
 fY : List UInt8
 fName : List UInt8
 fType : GType
 fE : GExpr
 fArgs : List GExpr
 fBody : List GStmt
 fElse : List GStmt
 fAt : Int
abbrev zGStmt : GStmt := ({ fKind := 0, fX := [], fY := [], fName := [], fType := zGType, fE := zGExpr, fArgs := [], fBody := [], fElse := [], fAt := 0 } : GStmt)
mutual
def rGStmt : GStmt → List PV
 | ⟨z0, z1, z2, z3, z4, z5, z6, z7, z8, z9⟩ => [.int .i64 z0, .str z1, .str z2, .str z3, .int .i64 z4.fKind, .str z4.fClass, .int .i64 z4.fN, .int .i64 z4.fOwn.a0.fKind, .int .i64 z4.fOwn.a0.fN, .int .i64 z4.fOwn.a1.fKind, .int .i64 z4.fOwn.a1.fN, .int .i64 z4.fOwn.a2.fKind, .int .i64 z4.fOwn.a2.fN, .int .i64 z4.fOwn.a3.fKind, .int .i64 z4.fOwn.a3.fN, .int .i64 z5.fKind, .int .i64 z5.fNum, .str z5.fName, .vs 4 (eLGExpr z5.fKids), .vs 4 (eLGExpr z6), .vs 23 (eLGStmt z7), .vs 23 (eLGStmt z8), .int .i64 z9]
def eLGStmt : List GStmt → List (List PV)
 | [] => []
 | x :: l => rGStmt x :: eLGStmt l
end
abbrev eGStmt (x : GStmt) : List PV := [.int .i64 x.fKind, .str x.fX, .str x.fY, .str x.fName, .int .i64 x.fType.fKind, .str x.fType.fClass, .int .i64 x.fType.fN, .int .i64 x.fType.fOwn.a0.fKind, .int .i64 x.fType.fOwn.a0.fN, .int .i64 x.fType.fOwn.a1.fKind, .int .i64 x.fType.fOwn.a1.fN, .int .i64 x.fType.fOwn.a2.fKind, .int .i64 x.fType.fOwn.a2.fN, .int .i64 x.fType.fOwn.a3.fKind, .int .i64 x.fType.fOwn.a3.fN, .int .i64 x.fE.fKind, .int .i64 x.fE.fNum, .str x.fE.fName, .vs 4 (eLGExpr x.fE.fKids), .vs 4 (eLGExpr x.fArgs), .vs 23 (eLGStmt x.fBody), .vs 23 (eLGStmt x.fElse), .int .i64 x.fAt]
theorem rGStmt_eq (x : GStmt) : rGStmt x = eGStmt x := by cases x; simp only [rGStmt]
theorem eLGStmt_map : ∀ l : List GStmt, eLGStmt l = l.map eGStmt
 | [] => by simp only [eLGStmt, List.map_nil]
 | x :: l => by simp only [eLGStmt, List.map_cons, rGStmt_eq, eLGStmt_map l]
mutual
def mGStmt : GStmt → Nat
 | ⟨_, _, _, _, _, z5, z6, z7, z8, _⟩ => 1 + mGExpr z5 + mLGExpr z6 + mLGStmt z7 + mLGStmt z8
def mLGStmt : List GStmt → Nat
 | [] => 0
 | x :: l => mGStmt x + mLGStmt l
end
structure GMethod where
 fName : List UInt8
 fPure : Bool
 fRet : GType
 fParams : List GVar
 fLocals : List GVar
 fBody : List GStmt
 fAt : Int
abbrev zGMethod : GMethod := ({ fName := [], fPure := false, fRet := zGType, fParams := [], fLocals := [], fBody := [], fAt := 0 } : GMethod)
def mGMethod : GMethod → Nat
 | ⟨_, _, _, _, _, z5, _⟩ => 1 + mLGStmt z5
def mLGMethod : List GMethod → Nat
 | [] => 0
 | x :: l => mGMethod x + mLGMethod l
abbrev eGMethod (x : GMethod) : List PV := [.str x.fName, .bool x.fPure, .int .i64 x.fRet.fKind, .str x.fRet.fClass, .int .i64 x.fRet.fN, .int .i64 x.fRet.fOwn.a0.fKind, .int .i64 x.fRet.fOwn.a0.fN, .int .i64 x.fRet.fOwn.a1.fKind, .int .i64 x.fRet.fOwn.a1.fN, .int .i64 x.fRet.fOwn.a2.fKind, .int .i64 x.fRet.fOwn.a2.fN, .int .i64 x.fRet.fOwn.a3.fKind, .int .i64 x.fRet.fOwn.a3.fN, .vs 13 (List.map eGVar x.fParams), .vs 13 (List.map eGVar x.fLocals), .vs 23 (eLGStmt x.fBody), .int .i64 x.fAt]
structure GClass where
 fName : List UInt8
 fParams : List (List UInt8)
 fSuper : List UInt8
 fAbove : List GOwner
 fFields : List GVar
 fMethods : List GMethod
 fAt : Int
abbrev zGClass : GClass := ({ fName := [], fParams := [], fSuper := [], fAbove := [], fFields := [], fMethods := [], fAt := 0 } : GClass)
def mGClass : GClass → Nat
 | ⟨_, _, _, _, _, z5, _⟩ => 1 + mLGMethod z5
def mLGClass : List GClass → Nat
 | [] => 0
 | x :: l => mGClass x + mLGClass l
abbrev eGClass (x : GClass) : List PV := [.str x.fName, .vs 1 (List.map eS x.fParams), .str x.fSuper, .vs 2 (List.map eGOwner x.fAbove), .vs 13 (List.map eGVar x.fFields), .vs 17 (List.map eGMethod x.fMethods), .int .i64 x.fAt]
structure GFault where
 fErr : Int
 fAt : Int
 deriving DecidableEq
abbrev zGFault : GFault := ({ fErr := 0, fAt := 0 } : GFault)
abbrev eGFault (x : GFault) : List PV := [.int .i64 x.fErr, .int .i64 x.fAt]
structure GToken where
 fKind : Int
 fText : List UInt8
 fAt : Int
 deriving DecidableEq
abbrev zGToken : GToken := ({ fKind := 0, fText := [], fAt := 0 } : GToken)
abbrev eGToken (x : GToken) : List PV := [.int .i64 x.fKind, .str x.fText, .int .i64 x.fAt]
structure GGot_ref09 where
 fC : GClass
 fM : GMethod
 fV : List GVar
 fN : List (List UInt8)
 fNext : Int
 fF : GFault
abbrev zGGot_ref09 : GGot_ref09 := ({ fC := zGClass, fM := zGMethod, fV := [], fN := [], fNext := 0, fF := zGFault } : GGot_ref09)
def mGGot_ref09 : GGot_ref09 → Nat
 | ⟨z0, z1, _, _, _, _⟩ => 1 + mGClass z0 + mGMethod z1
def mLGGot_ref09 : List GGot_ref09 → Nat
 | [] => 0
 | x :: l => mGGot_ref09 x + mLGGot_ref09 l
abbrev eGGot_ref09 (x : GGot_ref09) : List PV := [.str x.fC.fName, .vs 1 (List.map eS x.fC.fParams), .str x.fC.fSuper, .vs 2 (List.map eGOwner x.fC.fAbove), .vs 13 (List.map eGVar x.fC.fFields), .vs 17 (List.map eGMethod x.fC.fMethods), .int .i64 x.fC.fAt, .str x.fM.fName, .bool x.fM.fPure, .int .i64 x.fM.fRet.fKind, .str x.fM.fRet.fClass, .int .i64 x.fM.fRet.fN, .int .i64 x.fM.fRet.fOwn.a0.fKind, .int .i64 x.fM.fRet.fOwn.a0.fN, .int .i64 x.fM.fRet.fOwn.a1.fKind, .int .i64 x.fM.fRet.fOwn.a1.fN, .int .i64 x.fM.fRet.fOwn.a2.fKind, .int .i64 x.fM.fRet.fOwn.a2.fN, .int .i64 x.fM.fRet.fOwn.a3.fKind, .int .i64 x.fM.fRet.fOwn.a3.fN, .vs 13 (List.map eGVar x.fM.fParams), .vs 13 (List.map eGVar x.fM.fLocals), .vs 23 (eLGStmt x.fM.fBody), .int .i64 x.fM.fAt, .vs 13 (List.map eGVar x.fV), .vs 1 (List.map eS x.fN), .int .i64 x.fNext, .int .i64 x.fF.fErr, .int .i64 x.fF.fAt]
structure GGot_ref07 where
 fL : List GOwner
 fT : GType
 fV : GVar
 fNext : Int
 fF : GFault
 deriving DecidableEq
abbrev zGGot_ref07 : GGot_ref07 := ({ fL := [], fT := zGType, fV := zGVar, fNext := 0, fF := zGFault } : GGot_ref07)
abbrev eGGot_ref07 (x : GGot_ref07) : List PV := [.vs 2 (List.map eGOwner x.fL), .int .i64 x.fT.fKind, .str x.fT.fClass, .int .i64 x.fT.fN, .int .i64 x.fT.fOwn.a0.fKind, .int .i64 x.fT.fOwn.a0.fN, .int .i64 x.fT.fOwn.a1.fKind, .int .i64 x.fT.fOwn.a1.fN, .int .i64 x.fT.fOwn.a2.fKind, .int .i64 x.fT.fOwn.a2.fN, .int .i64 x.fT.fOwn.a3.fKind, .int .i64 x.fT.fOwn.a3.fN, .str x.fV.fName, .int .i64 x.fV.fType.fKind, .str x.fV.fType.fClass, .int .i64 x.fV.fType.fN, .int .i64 x.fV.fType.fOwn.a0.fKind, .int .i64 x.fV.fType.fOwn.a0.fN, .int .i64 x.fV.fType.fOwn.a1.fKind, .int .i64 x.fV.fType.fOwn.a1.fN, .int .i64 x.fV.fType.fOwn.a2.fKind, .int .i64 x.fV.fType.fOwn.a2.fN, .int .i64 x.fV.fType.fOwn.a3.fKind, .int .i64 x.fV.fType.fOwn.a3.fN, .int .i64 x.fV.fAt, .int .i64 x.fNext, .int .i64 x.fF.fErr, .int .i64 x.fF.fAt]
structure GGot_ref08 where
 fS : GStmt
 fL : List GStmt
 fA : List GExpr
 fNext : Int
 fF : GFault
abbrev zGGot_ref08 : GGot_ref08 := ({ fS := zGStmt, fL := [], fA := [], fNext := 0, fF := zGFault } : GGot_ref08)
def mGGot_ref08 : GGot_ref08 → Nat
 | ⟨z0, z1, z2, _, _⟩ => 1 + mGStmt z0 + mLGStmt z1 + mLGExpr z2
def mLGGot_ref08 : List GGot_ref08 → Nat
 | [] => 0
 | x :: l => mGGot_ref08 x + mLGGot_ref08 l
abbrev eGGot_ref08 (x : GGot_ref08) : List PV := [.int .i64 x.fS.fKind, .str x.fS.fX, .str x.fS.fY, .str x.fS.fName, .int .i64 x.fS.fType.fKind, .str x.fS.fType.fClass, .int .i64 x.fS.fType.fN, .int .i64 x.fS.fType.fOwn.a0.fKind, .int .i64 x.fS.fType.fOwn.a0.fN, .int .i64 x.fS.fType.fOwn.a1.fKind, .int .i64 x.fS.fType.fOwn.a1.fN, .int .i64 x.fS.fType.fOwn.a2.fKind, .int .i64 x.fS.fType.fOwn.a2.fN, .int .i64 x.fS.fType.fOwn.a3.fKind, .int .i64 x.fS.fType.fOwn.a3.fN, .int .i64 x.fS.fE.fKind, .int .i64 x.fS.fE.fNum, .str x.fS.fE.fName, .vs 4 (eLGExpr x.fS.fE.fKids), .vs 4 (eLGExpr x.fS.fArgs), .vs 23 (eLGStmt x.fS.fBody), .vs 23 (eLGStmt x.fS.fElse), .int .i64 x.fS.fAt, .vs 23 (eLGStmt x.fL), .vs 4 (eLGExpr x.fA), .int .i64 x.fNext, .int .i64 x.fF.fErr, .int .i64 x.fF.fAt]
structure GGot_ref06 where
 fE : GExpr
 fNext : Int
 fF : GFault
abbrev zGGot_ref06 : GGot_ref06 := ({ fE := zGExpr, fNext := 0, fF := zGFault } : GGot_ref06)
def mGGot_ref06 : GGot_ref06 → Nat
 | ⟨z0, _, _⟩ => 1 + mGExpr z0
def mLGGot_ref06 : List GGot_ref06 → Nat
 | [] => 0
 | x :: l => mGGot_ref06 x + mLGGot_ref06 l
abbrev eGGot_ref06 (x : GGot_ref06) : List PV := [.int .i64 x.fE.fKind, .int .i64 x.fE.fNum, .str x.fE.fName, .vs 4 (eLGExpr x.fE.fKids), .int .i64 x.fNext, .int .i64 x.fF.fErr, .int .i64 x.fF.fAt]
structure GLine_arena where
 fClass : Int
 fMethod : Int
 fDeep : Int
 fS : GStmt
abbrev zGLine_arena : GLine_arena := ({ fClass := 0, fMethod := 0, fDeep := 0, fS := zGStmt } : GLine_arena)
def mGLine_arena : GLine_arena → Nat
 | ⟨_, _, _, z3⟩ => 1 + mGStmt z3
def mLGLine_arena : List GLine_arena → Nat
 | [] => 0
 | x :: l => mGLine_arena x + mLGLine_arena l
abbrev eGLine_arena (x : GLine_arena) : List PV := [.int .i64 x.fClass, .int .i64 x.fMethod, .int .i64 x.fDeep, .int .i64 x.fS.fKind, .str x.fS.fX, .str x.fS.fY, .str x.fS.fName, .int .i64 x.fS.fType.fKind, .str x.fS.fType.fClass, .int .i64 x.fS.fType.fN, .int .i64 x.fS.fType.fOwn.a0.fKind, .int .i64 x.fS.fType.fOwn.a0.fN, .int .i64 x.fS.fType.fOwn.a1.fKind, .int .i64 x.fS.fType.fOwn.a1.fN, .int .i64 x.fS.fType.fOwn.a2.fKind, .int .i64 x.fS.fType.fOwn.a2.fN, .int .i64 x.fS.fType.fOwn.a3.fKind, .int .i64 x.fS.fType.fOwn.a3.fN, .int .i64 x.fS.fE.fKind, .int .i64 x.fS.fE.fNum, .str x.fS.fE.fName, .vs 4 (eLGExpr x.fS.fE.fKids), .vs 4 (eLGExpr x.fS.fArgs), .vs 23 (eLGStmt x.fS.fBody), .vs 23 (eLGStmt x.fS.fElse), .int .i64 x.fS.fAt]
structure Gwalker_pure where
 fp : List GClass
 fmet : List UInt8 → Option Int
 ftodo : List (A2 Int)
abbrev zGwalker_pure : Gwalker_pure := ({ fp := [], fmet := (fun _ => none), ftodo := [] } : Gwalker_pure)
def mGwalker_pure : Gwalker_pure → Nat
 | ⟨z0, _, _⟩ => 1 + mLGClass z0
def mLGwalker_pure : List Gwalker_pure → Nat
 | [] => 0
 | x :: l => mGwalker_pure x + mLGwalker_pure l
abbrev eGwalker_pure (x : Gwalker_pure) : List PV := [.vs 7 (List.map eGClass x.fp), .mpv Tryz.prog 79 x.fmet, .vs 2 (List.map (eA2 eI) x.ftodo)]
structure GFound_method where
 fClass : List UInt8
 fMethod : GMethod
abbrev zGFound_method : GFound_method := ({ fClass := [], fMethod := zGMethod } : GFound_method)
def mGFound_method : GFound_method → Nat
 | ⟨_, z1⟩ => 1 + mGMethod z1
def mLGFound_method : List GFound_method → Nat
 | [] => 0
 | x :: l => mGFound_method x + mLGFound_method l
abbrev eGFound_method (x : GFound_method) : List PV := [.str x.fClass, .str x.fMethod.fName, .bool x.fMethod.fPure, .int .i64 x.fMethod.fRet.fKind, .str x.fMethod.fRet.fClass, .int .i64 x.fMethod.fRet.fN, .int .i64 x.fMethod.fRet.fOwn.a0.fKind, .int .i64 x.fMethod.fRet.fOwn.a0.fN, .int .i64 x.fMethod.fRet.fOwn.a1.fKind, .int .i64 x.fMethod.fRet.fOwn.a1.fN, .int .i64 x.fMethod.fRet.fOwn.a2.fKind, .int .i64 x.fMethod.fRet.fOwn.a2.fN, .int .i64 x.fMethod.fRet.fOwn.a3.fKind, .int .i64 x.fMethod.fRet.fOwn.a3.fN, .vs 13 (List.map eGVar x.fMethod.fParams), .vs 13 (List.map eGVar x.fMethod.fLocals), .vs 23 (eLGStmt x.fMethod.fBody), .int .i64 x.fMethod.fAt]
structure Gheld_method where
 fMethod : GMethod
 fclass : Int
abbrev zGheld_method : Gheld_method := ({ fMethod := zGMethod, fclass := 0 } : Gheld_method)
def mGheld_method : Gheld_method → Nat
 | ⟨z0, _⟩ => 1 + mGMethod z0
def mLGheld_method : List Gheld_method → Nat
 | [] => 0
 | x :: l => mGheld_method x + mLGheld_method l
abbrev eGheld_method (x : Gheld_method) : List PV := [.str x.fMethod.fName, .bool x.fMethod.fPure, .int .i64 x.fMethod.fRet.fKind, .str x.fMethod.fRet.fClass, .int .i64 x.fMethod.fRet.fN, .int .i64 x.fMethod.fRet.fOwn.a0.fKind, .int .i64 x.fMethod.fRet.fOwn.a0.fN, .int .i64 x.fMethod.fRet.fOwn.a1.fKind, .int .i64 x.fMethod.fRet.fOwn.a1.fN, .int .i64 x.fMethod.fRet.fOwn.a2.fKind, .int .i64 x.fMethod.fRet.fOwn.a2.fN, .int .i64 x.fMethod.fRet.fOwn.a3.fKind, .int .i64 x.fMethod.fRet.fOwn.a3.fN, .vs 13 (List.map eGVar x.fMethod.fParams), .vs 13 (List.map eGVar x.fMethod.fLocals), .vs 23 (eLGStmt x.fMethod.fBody), .int .i64 x.fMethod.fAt, .int .i64 x.fclass]
structure GCall_ref22 where
 fClass : List UInt8
 fName : List UInt8
 deriving DecidableEq
abbrev zGCall_ref22 : GCall_ref22 := ({ fClass := [], fName := [] } : GCall_ref22)
abbrev eGCall_ref22 (x : GCall_ref22) : List PV := [.str x.fClass, .str x.fName]
structure GFound_ref17 where
 fClass : List UInt8
 fMethod : GMethod
abbrev zGFound_ref17 : GFound_ref17 := ({ fClass := [], fMethod := zGMethod } : GFound_ref17)
def mGFound_ref17 : GFound_ref17 → Nat
 | ⟨_, z1⟩ => 1 + mGMethod z1
def mLGFound_ref17 : List GFound_ref17 → Nat
 | [] => 0
 | x :: l => mGFound_ref17 x + mLGFound_ref17 l
abbrev eGFound_ref17 (x : GFound_ref17) : List PV := [.str x.fClass, .str x.fMethod.fName, .bool x.fMethod.fPure, .int .i64 x.fMethod.fRet.fKind, .str x.fMethod.fRet.fClass, .int .i64 x.fMethod.fRet.fN, .int .i64 x.fMethod.fRet.fOwn.a0.fKind, .int .i64 x.fMethod.fRet.fOwn.a0.fN, .int .i64 x.fMethod.fRet.fOwn.a1.fKind, .int .i64 x.fMethod.fRet.fOwn.a1.fN, .int .i64 x.fMethod.fRet.fOwn.a2.fKind, .int .i64 x.fMethod.fRet.fOwn.a2.fN, .int .i64 x.fMethod.fRet.fOwn.a3.fKind, .int .i64 x.fMethod.fRet.fOwn.a3.fN, .vs 13 (List.map eGVar x.fMethod.fParams), .vs 13 (List.map eGVar x.fMethod.fLocals), .vs 23 (eLGStmt x.fMethod.fBody), .int .i64 x.fMethod.fAt]
structure GLine_ref12 where
 fClass : Int
 fMethod : Int
 fDeep : Int
 fS : GStmt
abbrev zGLine_ref12 : GLine_ref12 := ({ fClass := 0, fMethod := 0, fDeep := 0, fS := zGStmt } : GLine_ref12)
def mGLine_ref12 : GLine_ref12 → Nat
 | ⟨_, _, _, z3⟩ => 1 + mGStmt z3
def mLGLine_ref12 : List GLine_ref12 → Nat
 | [] => 0
 | x :: l => mGLine_ref12 x + mLGLine_ref12 l
abbrev eGLine_ref12 (x : GLine_ref12) : List PV := [.int .i64 x.fClass, .int .i64 x.fMethod, .int .i64 x.fDeep, .int .i64 x.fS.fKind, .str x.fS.fX, .str x.fS.fY, .str x.fS.fName, .int .i64 x.fS.fType.fKind, .str x.fS.fType.fClass, .int .i64 x.fS.fType.fN, .int .i64 x.fS.fType.fOwn.a0.fKind, .int .i64 x.fS.fType.fOwn.a0.fN, .int .i64 x.fS.fType.fOwn.a1.fKind, .int .i64 x.fS.fType.fOwn.a1.fN, .int .i64 x.fS.fType.fOwn.a2.fKind, .int .i64 x.fS.fType.fOwn.a2.fN, .int .i64 x.fS.fType.fOwn.a3.fKind, .int .i64 x.fS.fType.fOwn.a3.fN, .int .i64 x.fS.fE.fKind, .int .i64 x.fS.fE.fNum, .str x.fS.fE.fName, .vs 4 (eLGExpr x.fS.fE.fKids), .vs 4 (eLGExpr x.fS.fArgs), .vs 23 (eLGStmt x.fS.fBody), .vs 23 (eLGStmt x.fS.fElse), .int .i64 x.fS.fAt]
def bGFault (a b : GFault) : Bool := (a.fErr == b.fErr && (a.fAt == b.fAt && true))
def bGCall_ref22 (a b : GCall_ref22) : Bool := (a.fClass == b.fClass && (a.fName == b.fName && true))
def bA2Int (a b : A2 Int) : Bool := (a.a0 == b.a0 && (a.a1 == b.a1 && true))
def ref10_uniques_L1 (a0 : GMethod) : Nat → Int → Int → Option (Int)
 | 0, _, _ => none
 | n + 1, x10, x11 =>
 if (decide (x11 < (a0.fParams.length : Int))) then
 ((idx a0.fParams x11).bind fun y26 =>
 if (y26.fType.fOwn.a0.fKind == 6) then
 some (w_i64 (x10 + 1))
 else
 some x10 : Option (Int)).bind fun x29 =>
 ref10_uniques_L1 a0 n x29 (w_i64 (x11 + 1))
 else
 some x10
def ref10_uniques_L2 (a0 : GMethod) : Nat → Int → Int → Option (Int)
 | 0, _, _ => none
 | n + 1, x45, x46 =>
 if (decide (x46 < (a0.fLocals.length : Int))) then
 ((idx a0.fLocals x46).bind fun y61 =>
 if (y61.fType.fOwn.a0.fKind == 6) then
 some (w_i64 (x45 + 1))
 else
 some x45 : Option (Int)).bind fun x64 =>
 ref10_uniques_L2 a0 n x64 (w_i64 (x46 + 1))
 else
 some x45
def ref10_uniques (a0 : GMethod) : Option Int :=
 (ref10_uniques_L1 a0 ((a0.fParams.length - 0 : Int).toNat + 1) 0 0).bind fun x34 =>
 (ref10_uniques_L2 a0 ((a0.fLocals.length - 0 : Int).toNat + 1) x34 0).bind fun x69 =>
 some x69
def ref10_kids_L1 (a0 : GExpr) (a1 : Int) (ref10_kids_rec : GExpr → Int → Option Bool) : Nat → Int → Option (Ctl (Bool) (Unit))
 | 0, _ => none
 | n + 1, x16 =>
 if (decide (x16 < (a0.fKids.length : Int))) then
 (idx a0.fKids x16).bind fun y33 =>
 (ref10_kids_rec y33 (w_i64 (a1 - 1))).bind fun y35 =>
 if y35 = true then
 some (.stop true)
 else
 ref10_kids_L1 a0 a1 ref10_kids_rec n (w_i64 (x16 + 1))
 else
 some (.next ())
def ref10_kids : Nat → GExpr → Int → Option Bool
 | 0, _, _ => none
 | n + 1, a0, a1 =>
 (if (decide (a1 < 0)) then
 some true
 else
 some (decide ((a0.fKids.length : Int) > 4)) : Option (Bool)).bind fun x2 =>
 if x2 = true then
 some true
 else
 (ref10_kids_L1 a0 a1 (ref10_kids n) ((a0.fKids.length - 0 : Int).toNat + 1) 0).bind fun lr39 =>
 Ctl.elim lr39 (fun v => some v) fun _ =>
 some false
def ref10_much_L1 (a0 : GStmt) : Nat → Int → Option (Ctl (Bool) (Unit))
 | 0, _ => none
 | n + 1, x21 =>
 if (decide (x21 < (a0.fArgs.length : Int))) then
 (idx a0.fArgs x21).bind fun y38 =>
 (ref10_kids (mGExpr y38 + 1) y38 25).bind fun y40 =>
 if y40 = true then
 some (.stop true)
 else
 ref10_much_L1 a0 n (w_i64 (x21 + 1))
 else
 some (.next ())
def ref10_much_L2 (a0 : GStmt) (a1 : Int) (ref10_much_rec : GStmt → Int → Option Bool) : Nat → Int → Option (Ctl (Bool) (Unit))
 | 0, _ => none
 | n + 1, x56 =>
 if (decide (x56 < (a0.fBody.length : Int))) then
 (idx a0.fBody x56).bind fun y73 =>
 (ref10_much_rec y73 (w_i64 (a1 - 1))).bind fun y75 =>
 if y75 = true then
 some (.stop true)
 else
 ref10_much_L2 a0 a1 ref10_much_rec n (w_i64 (x56 + 1))
 else
 some (.next ())
def ref10_much_L3 (a0 : GStmt) (a1 : Int) (ref10_much_rec : GStmt → Int → Option Bool) : Nat → Int → Option (Ctl (Bool) (Unit))
 | 0, _ => none
 | n + 1, x91 =>
 if (decide (x91 < (a0.fElse.length : Int))) then
 (idx a0.fElse x91).bind fun y108 =>
 (ref10_much_rec y108 (w_i64 (a1 - 1))).bind fun y110 =>
 if y110 = true then
 some (.stop true)
 else
 ref10_much_L3 a0 a1 ref10_much_rec n (w_i64 (x91 + 1))
 else
 some (.next ())
def ref10_much : Nat → GStmt → Int → Option Bool
 | 0, _, _ => none
 | n + 1, a0, a1 =>
 (if (decide (a1 < 0)) then
 some true
 else
 if (decide ((a0.fBody.length : Int) > 500)) then
 some true
 else
 if (decide ((a0.fElse.length : Int) > 500)) then
 some true
 else
 if (decide ((a0.fArgs.length : Int) > 20)) then
 some true
 else
 (ref10_kids (mGExpr a0.fE + 1) a0.fE 25).bind fun y5 =>
 some y5 : Option (Bool)).bind fun x7 =>
 if x7 = true then
 some true
 else
 (ref10_much_L1 a0 ((a0.fArgs.length - 0 : Int).toNat + 1) 0).bind fun lr44 =>
 Ctl.elim lr44 (fun v => some v) fun _ =>
 (ref10_much_L2 a0 a1 (ref10_much n) ((a0.fBody.length - 0 : Int).toNat + 1) 0).bind fun lr79 =>
 Ctl.elim lr79 (fun v => some v) fun _ =>
 (ref10_much_L3 a0 a1 (ref10_much n) ((a0.fElse.length - 0 : Int).toNat + 1) 0).bind fun lr114 =>
 Ctl.elim lr114 (fun v => some v) fun _ =>
 some false
def ref08_Size_L1 (a0 : GStmt) (ref08_Size_rec : GStmt → Option Int) : Nat → Int → Int → Option (Int)
 | 0, _, _ => none
 | n + 1, x10, x11 =>
 if (decide (x11 < (a0.fBody.length : Int))) then
 (idx a0.fBody x11).bind fun y28 =>
 (ref08_Size_rec y28).bind fun (y30 : Int) =>
 ref08_Size_L1 a0 ref08_Size_rec n (w_i64 (x10 + y30)) (w_i64 (x11 + 1))
 else
 some x10
def ref08_Size_L2 (a0 : GStmt) (ref08_Size_rec : GStmt → Option Int) : Nat → Int → Int → Option (Int)
 | 0, _, _ => none
 | n + 1, x45, x46 =>
 if (decide (x46 < (a0.fElse.length : Int))) then
 (idx a0.fElse x46).bind fun y63 =>
 (ref08_Size_rec y63).bind fun (y65 : Int) =>
 ref08_Size_L2 a0 ref08_Size_rec n (w_i64 (x45 + y65)) (w_i64 (x46 + 1))
 else
 some x45
def ref08_Size : Nat → GStmt → Option Int
 | 0, _ => none
 | n + 1, a0 =>
 (ref08_Size_L1 a0 (ref08_Size n) ((a0.fBody.length - 0 : Int).toNat + 1) 1 0).bind fun x34 =>
 (ref08_Size_L2 a0 (ref08_Size n) ((a0.fElse.length - 0 : Int).toNat + 1) x34 0).bind fun x69 =>
 some x69
def ref10_Heavy_L3 (y685 : GMethod) : Nat → Int → Int → Option (Ctl (Bool) (Int))
 | 0, _, _ => none
 | n + 1, x714, x715 =>
 if (decide (x715 < (y685.fBody.length : Int))) then
 (if (decide (x714 > 500)) then
 some true
 else
 (idx y685.fBody x715).bind fun y738 =>
 (ref10_much (mGStmt y738 + 1) y738 25).bind fun y740 =>
 some y740 : Option (Bool)).bind fun x742 =>
 if x742 = true then
 some (.stop true)
 else
 (idx y685.fBody x715).bind fun y750 =>
 (ref08_Size (mGStmt y750 + 1) y750).bind fun (y752 : Int) =>
 ref10_Heavy_L3 y685 n (w_i64 (x714 + y752)) (w_i64 (x715 + 1))
 else
 some (.next x714)
def ref10_Heavy_L2 (y514 : GClass) : Nat → Int → Int → Option (Ctl (Bool) (Int))
 | 0, _, _ => none
 | n + 1, x601, x602 =>
 if (decide (x602 < (y514.fMethods.length : Int))) then
 (idx y514.fMethods x602).bind fun y685 =>
 (if (decide ((y685.fParams.length : Int) > 40)) then
 some true
 else
 if (decide ((y685.fLocals.length : Int) > 40)) then
 some true
 else
 if (decide ((y685.fBody.length : Int) > 500)) then
 some true
 else
 (ref10_uniques y685).bind fun (y690 : Int) =>
 some (decide (y690 > 8)) : Option (Bool)).bind fun x692 =>
 if x692 = true then
 some (.stop true)
 else
 (ref10_Heavy_L3 y685 ((y685.fBody.length - 0 : Int).toNat + 1) x601 0).bind fun lr757 =>
 Ctl.elim lr757 (fun v => some (.stop v)) fun x756 =>
 ref10_Heavy_L2 y514 n x756 (w_i64 (x602 + 1))
 else
 some (.next x601)
def ref10_Heavy_L1 (a0 : List GClass) : Nat → Int → Int → Option (Ctl (Bool) (Int))
 | 0, _, _ => none
 | n + 1, x254, x255 =>
 if (decide (x255 < (a0.length : Int))) then
 (idx a0 x255).bind fun y514 =>
 (if (decide ((a0.length : Int) > 30)) then
 some true
 else
 if (decide ((y514.fParams.length : Int) > 20)) then
 some true
 else
 if (decide ((y514.fAbove.length : Int) > 20)) then
 some true
 else
 if (decide ((y514.fFields.length : Int) > 40)) then
 some true
 else
 some (decide ((y514.fMethods.length : Int) > 40)) : Option (Bool)).bind fun x520 =>
 if x520 = true then
 some (.stop true)
 else
 (ref10_Heavy_L2 y514 ((y514.fMethods.length - 0 : Int).toNat + 1) x254 0).bind fun lr762 =>
 Ctl.elim lr762 (fun v => some (.stop v)) fun x761 =>
 ref10_Heavy_L1 a0 n x761 (w_i64 (x255 + 1))
 else
 some (.next x254)
def ref10_Heavy (a0 : List GClass) : Option Bool :=
 (ref10_Heavy_L1 a0 ((a0.length - 0 : Int).toNat + 1) 0 0).bind fun lr767 =>
 Ctl.elim lr767 (fun v => some v) fun x766 =>
 some (decide (x766 > 500))
def ref02_Blank (a0 : Int) : Option Bool :=
 if (a0 == 9) then
 none
 else
 if (a0 == 10) then
 none
 else
 if (a0 == 13) then
 none
 else
 some (a0 == 32)
def ref03_skip_L1 (a0 : List UInt8) : Nat → Int → Option (Ctl (Int) (Int))
 | 0, _ => none
 | n + 1, x17 =>
 if (decide (x17 < (a0.length : Int))) then
 (idx a0 x17).bind fun (y40 : UInt8) =>
 (ref02_Blank (y40.toNat : Int)).bind fun y42 =>
 if y42 = true then
 ref03_skip_L1 a0 n (w_i64 (x17 + 1))
 else
 (if (decide ((w_i64 (x17 + 1)) ≥ (a0.length : Int))) then
 some ()
 else
 (idx a0 x17).bind fun (y46 : UInt8) =>
 if ((y46.toNat : Int) != 47) then
 some ()
 else
 none : Option (Unit)).bind fun _ =>
 some (.stop x17)
 else
 some (.next x17)
def ref03_skip (a0 : List UInt8) : Option Int :=
 (ref03_skip_L1 a0 (a0.length + 64) 0).bind fun lr53 =>
 Ctl.elim lr53 (fun v => some v) fun x52 =>
 some x52
def ref02_Letter (a0 : Int) : Option Bool :=
 if (decide (a0 ≥ 97)) then
 if (decide (a0 ≤ 122)) then
 some true
 else
 if (decide (a0 ≥ 65)) then
 some (decide (a0 ≤ 90))
 else
 some false
 else
 if (decide (a0 ≥ 65)) then
 some (decide (a0 ≤ 90))
 else
 some false
def ref02_Digit (a0 : Int) : Option Bool :=
 if (decide (a0 ≥ 48)) then
 some (decide (a0 ≤ 57))
 else
 some false
def ref02_Words  : Option (List (List UInt8)) :=
 some [[99, 108, 97, 115, 115], [101, 120, 116, 101, 110, 100, 115], [114, 101, 112], [112, 101, 101, 114], [119, 111, 114, 108, 100], [97, 110, 121], [117, 110, 105, 113, 117, 101], [112, 117, 114, 101], [118, 111, 105, 100], [105, 110, 116], [105, 102], [101, 108, 115, 101], [119, 104, 105, 108, 101], [114, 101, 116, 117, 114, 110], [110, 101, 119], [109, 111, 118, 101], [100, 101, 108, 101, 116, 101], [116, 104, 105, 115], [110, 117, 108, 108], [105, 110, 112, 117, 116], [110, 105, 108], [115, 97, 109, 101], [99, 97, 115, 116]]
def ref02_Find_L1 (a0 : List UInt8) (y3 : (List (List UInt8))) : Nat → Int → Option (Ctl (Int) (Unit))
 | 0, _ => none
 | n + 1, x11 =>
 if (decide (x11 < (y3.length : Int))) then
 (idx y3 x11).bind fun y22 =>
 if (y22 == a0) then
 some (.stop (w_i64 (x11 + 1)))
 else
 ref02_Find_L1 a0 y3 n (w_i64 (x11 + 1))
 else
 some (.next ())
def ref02_Find (a0 : List UInt8) : Option Int :=
 Option.bind ref02_Words fun (y3 : (List (List UInt8))) =>
 (ref02_Find_L1 a0 y3 ((y3.length - 0 : Int).toNat + 1) 0).bind fun lr26 =>
 Ctl.elim lr26 (fun v => some v) fun _ =>
 some 0
def ref03_sign_L1 (a0 : List UInt8) : Nat → Int → Option (Ctl ((List UInt8)) (Unit))
 | 0, _ => none
 | n + 1, x26 =>
 (if (decide (x26 < ([123, 125, 40, 41, 60, 62, 44, 59, 46, 61, 43, 45, 42, 33].length : Int))) then
 some ()
 else
 none : Option (Unit)).bind fun _ =>
 if (!(a0 == [])) then
 (idx [123, 125, 40, 41, 60, 62, 44, 59, 46, 61, 43, 45, 42, 33] x26).bind fun (y51 : UInt8) =>
 (idx a0 0).bind fun (y53 : UInt8) =>
 if ((y51.toNat : Int) == (y53.toNat : Int)) then
 (cutL a0 0 1).bind fun y56 =>
 some (.stop y56)
 else
 ref03_sign_L1 a0 n (w_i64 (x26 + 1))
 else
 some (.next ())
def ref03_sign (a0 : List UInt8) : Option (List UInt8) :=
 (if (decide ((a0.length : Int) > 1)) then
 (cutL a0 0 2).bind fun y2 =>
 if (y2 == [61, 61]) then
 none
 else
 (cutL a0 0 2).bind fun y5 =>
 some (y5 == [38, 38])
 else
 some false : Option (Bool)).bind fun x7 =>
 if x7 = true then
 none
 else
 (ref03_sign_L1 a0 (a0.length + 64) 0).bind fun lr59 =>
 Ctl.elim lr59 (fun v => some v) fun _ =>
 some []
def ref03_one_L1 (a0 : List UInt8) : Nat → Int → Option (Int)
 | 0, _ => none
 | n + 1, x24 =>
 (if (decide (x24 < (a0.length : Int))) then
 (idx a0 x24).bind fun (y41 : UInt8) =>
 (ref02_Letter (y41.toNat : Int)).bind fun y43 =>
 if y43 = true then
 some true
 else
 (idx a0 x24).bind fun (y46 : UInt8) =>
 (ref02_Digit (y46.toNat : Int)).bind fun y48 =>
 some y48
 else
 none : Option (Bool)).bind fun x50 =>
 if x50 = true then
 ref03_one_L1 a0 n (w_i64 (x24 + 1))
 else
 some x24
def ref03_one_L2 (a0 : List UInt8) : Nat → Int → Option (Int)
 | 0, _ => none
 | n + 1, x88 =>
 (if (decide (x88 < (a0.length : Int))) then
 (idx a0 x88).bind fun (y100 : UInt8) =>
 (ref02_Digit (y100.toNat : Int)).bind fun y102 =>
 some y102
 else
 none : Option (Bool)).bind fun x104 =>
 if x104 = true then
 ref03_one_L2 a0 n (w_i64 (x88 + 1))
 else
 some x88
def ref03_one (a0 : List UInt8) : Option GToken :=
 (idx a0 0).bind fun (y5 : UInt8) =>
 (ref02_Letter (y5.toNat : Int)).bind fun y7 =>
 if y7 = true then
 (ref03_one_L1 a0 (a0.length + 64) 0).bind fun x55 =>
 (cutL a0 0 x55).bind fun y61 =>
 (ref02_Find y61).bind fun (y63 : Int) =>
 if (decide (y63 > 0)) then
 (cutL a0 0 x55).bind fun y66 =>
 some ({ fKind := 3, fText := y66, fAt := 0 } : GToken)
 else
 (cutL a0 0 x55).bind fun y68 =>
 some ({ fKind := 1, fText := y68, fAt := 0 } : GToken)
 else
 (idx a0 0).bind fun (y74 : UInt8) =>
 (ref02_Digit (y74.toNat : Int)).bind fun y76 =>
 if y76 = true then
 (ref03_one_L2 a0 (a0.length + 64) 0).bind fun x109 =>
 (cutL a0 0 x109).bind fun y111 =>
 some ({ fKind := 2, fText := y111, fAt := 0 } : GToken)
 else
 (ref03_sign a0).bind fun y115 =>
 if (!(y115 == [])) then
 (ref03_sign a0).bind fun y118 =>
 some ({ fKind := 4, fText := y118, fAt := 0 } : GToken)
 else
 none
def ref02_Number_L1 (a0 : List UInt8) : Nat → Int → Int → Option (Ctl (Int × Bool) (Int))
 | 0, _, _ => none
 | n + 1, x22, x23 =>
 if (decide (x23 < (a0.length : Int))) then
 (idx a0 x23).bind fun (y45 : UInt8) =>
 (ref02_Digit (y45.toNat : Int)).bind fun y47 =>
 if (!y47) then
 some (.stop (0, false))
 else
 (idx a0 x23).bind fun (y52 : UInt8) =>
 ref02_Number_L1 a0 n (w_i64 ((w_i64 (10 * x22)) + (w_i64 (w_u8 ((y52.toNat : Int) - 48))))) (w_i64 (x23 + 1))
 else
 some (.next x22)
def ref02_Number (a0 : List UInt8) : Option (Int × Bool) :=
 (if (decide ((a0.length : Int) < 1)) then
 none
 else
 if (decide ((a0.length : Int) > 9)) then
 none
 else
 (idx a0 0).bind fun (y3 : UInt8) =>
 if ((y3.toNat : Int) == 48) then
 none
 else
 some () : Option (Unit)).bind fun _ =>
 (ref02_Number_L1 a0 ((a0.length - 0 : Int).toNat + 1) 0 0).bind fun lr57 =>
 Ctl.elim lr57 (fun v => some v) fun x56 =>
 some (x56, true)
def ref03_Of_L1 (a0 : List UInt8) : Nat → (List GToken) → Int → Option ((List GToken))
 | 0, _, _ => none
 | n + 1, x36, x37 =>
 if (decide (x37 < (a0.length : Int))) then
 (cutL a0 x37 a0.length).bind fun y75 =>
 (ref03_one y75).bind fun y77 =>
 if ((({ y77 with fAt := x37 } : GToken).fKind) == 0) then
 none
 else
 (ref02_Number (({ y77 with fAt := x37 } : GToken).fText)).bind fun y82 =>
 (if ((({ y77 with fAt := x37 } : GToken).fKind) == 1) then
 if (decide (((({ y77 with fAt := x37 } : GToken).fText).length : Int) > 20)) then
 none
 else
 if ((({ y77 with fAt := x37 } : GToken).fKind) == 2) then
 some (!y82.2)
 else
 some false
 else
 if ((({ y77 with fAt := x37 } : GToken).fKind) == 2) then
 some (!y82.2)
 else
 some false : Option (Bool)).bind fun x88 =>
 if x88 = true then
 none
 else
 (room ((x36.length : Int) + ([({ y77 with fAt := x37 } : GToken)].length : Int)) 32).bind fun u94 =>
 (cutL a0 (w_i64 (x37 + ((({ y77 with fAt := x37 } : GToken).fText).length : Int))) a0.length).bind fun y96 =>
 (ref03_skip y96).bind fun (y98 : Int) =>
 ref03_Of_L1 a0 n (x36 ++ [({ y77 with fAt := x37 } : GToken)]) (w_i64 ((w_i64 (x37 + ((({ y77 with fAt := x37 } : GToken).fText).length : Int))) + y98))
 else
 some x36
def ref03_Of (a0 : List UInt8) : Option ((List GToken) × GFault) :=
 if (decide ((a0.length : Int) > 16384)) then
 none
 else
 (ref03_skip a0).bind fun (y4 : Int) =>
 (ref03_Of_L1 a0 ((((a0.length : Int) : Int) - (y4)).toNat + 1) [] y4).bind fun x102 =>
 (room ((x102.length : Int) + ([({ fKind := 0, fText := [], fAt := (a0.length : Int) } : GToken)].length : Int)) 32).bind fun u104 =>
 some ((x102 ++ [({ fKind := 0, fText := [], fAt := (a0.length : Int) } : GToken)]), ({ fErr := 0, fAt := 0 } : GFault))
def ref06_Tok (a0 : List GToken) (a1 : Int) : Option GToken :=
 (if (decide (a1 ≥ 0)) then
 some ()
 else
 none : Option (Unit)).bind fun _ =>
 if (decide (a1 < (a0.length : Int))) then
 (idx a0 a1).bind fun y5 =>
 some y5
 else
 none
def ref09_tok (a0 : List GToken) (a1 : Int) : Option GToken :=
 (ref06_Tok a0 a1).bind fun y1 =>
 some y1
def ref03_Is (a0 : GToken) (a1 : List UInt8) : Option Bool :=
 if (a0.fKind == 3) then
 some (a0.fText == a1)
 else
 if (a0.fKind == 4) then
 some (a0.fText == a1)
 else
 some false
def ref09_is (a0 : List GToken) (a1 : Int) (a2 : List UInt8) : Option Bool :=
 (ref06_Tok a0 a1).bind fun y1 =>
 (ref03_Is y1 a2).bind fun y3 =>
 some y3
def ref09_Stmts_L2 (a0 : GClass) (x64 : Int) : Nat → Int → Int → Option (Int)
 | 0, _, _ => none
 | n + 1, x147, x148 =>
 (idx a0.fMethods x64).bind fun y170 =>
 if (decide (x148 < (y170.fBody.length : Int))) then
 (idx a0.fMethods x64).bind fun y179 =>
 (idx y179.fBody x148).bind fun y181 =>
 (ref08_Size (mGStmt y181 + 1) y181).bind fun (y183 : Int) =>
 ref09_Stmts_L2 a0 x64 n (w_i64 (x147 + y183)) (w_i64 (x148 + 1))
 else
 some x147
def ref09_Stmts_L1 (a0 : GClass) : Nat → Int → Int → Option (Int)
 | 0, _, _ => none
 | n + 1, x63, x64 =>
 if (decide (x64 < (a0.fMethods.length : Int))) then
 (ref09_Stmts_L2 a0 x64 (Option.getD ((idx a0.fMethods x64).bind fun y189 => some ((y189.fBody.length - 0 : Int).toNat + 1)) 1) x63 0).bind fun x187 =>
 ref09_Stmts_L1 a0 n x187 (w_i64 (x64 + 1))
 else
 some x63
def ref09_Stmts (a0 : GClass) : Option Int :=
 (ref09_Stmts_L1 a0 ((a0.fMethods.length - 0 : Int).toNat + 1) 0 0).bind fun x193 =>
 some x193
def ref07_Parse (a0 : List GToken) (a1 : Int) (a2 : List (List UInt8)) (a3 : Bool) : Option GGot_ref07 :=
 (ref06_Tok a0 a1).bind fun y3 =>
 (ref03_Is y3 [118, 111, 105, 100]).bind fun (y7 : Bool) =>
 if y7 = true then
 some ({ fL := [], fT := zGType, fV := zGVar, fNext := w_i64 (a1 + 1), fF := zGFault } : GGot_ref07)
 else
 (ref03_Is y3 [105, 110, 116]).bind fun (y12 : Bool) =>
 if y12 = true then
 some ({ fL := [], fT := ({ fKind := 1, fClass := [], fN := 0, fOwn := (⟨zGOwner, zGOwner, zGOwner, zGOwner⟩ : A4 GOwner) } : GType), fV := zGVar, fNext := w_i64 (a1 + 1), fF := zGFault } : GGot_ref07)
 else
 none
def ref09_params (a0 : List GToken) (a1 : Int) (a2 : List (List UInt8)) : Option GGot_ref09 :=
 (ref09_is a0 (w_i64 (a1 + 1)) [41]).bind fun (y3 : Bool) =>
 if y3 = true then
 some ({ fC := zGClass, fM := zGMethod, fV := [], fN := [], fNext := w_i64 ((w_i64 (a1 + 1)) + 1), fF := zGFault } : GGot_ref09)
 else
 none
def ref07_word_L1 (a0 : GToken) : Nat → Int → Option (Unit)
 | 0, _ => none
 | n + 1, x17 =>
 if (decide (x17 < ([[114, 101, 112], [112, 101, 101, 114], [], [119, 111, 114, 108, 100], [97, 110, 121], [117, 110, 105, 113, 117, 101]].length : Int))) then
 ((idx [[114, 101, 112], [112, 101, 101, 114], [], [119, 111, 114, 108, 100], [97, 110, 121], [117, 110, 105, 113, 117, 101]] x17).bind fun (y40 : List UInt8) =>
 (ref03_Is a0 y40).bind fun y42 =>
 if y42 = true then
 (idx [[114, 101, 112], [112, 101, 101, 114], [], [119, 111, 114, 108, 100], [97, 110, 121], [117, 110, 105, 113, 117, 101]] x17).bind fun (y45 : List UInt8) =>
 some (!(y45 == []))
 else
 some false : Option (Bool)).bind fun x47 =>
 if x47 = true then
 none
 else
 ref07_word_L1 a0 n (w_i64 (x17 + 1))
 else
 some ()
def ref07_word (a0 : GToken) : Option GOwner :=
 (ref07_word_L1 a0 (((([[114, 101, 112], [112, 101, 101, 114], [], [119, 111, 114, 108, 100], [97, 110, 121], [117, 110, 105, 113, 117, 101]].length : Int) : Int) - (0)).toNat + 1) 0).bind fun _ =>
 some ({ fKind := 0, fN := 0 } : GOwner)
def ref07_Begins (a0 : List GToken) (a1 : Int) : Option Bool :=
 (ref06_Tok a0 a1).bind fun y3 =>
 ((ref03_Is y3 [105, 110, 116]).bind fun (y7 : Bool) =>
 if y7 = true then
 none
 else
 (ref07_word y3).bind fun y10 =>
 some (y10.fKind != 0) : Option (Bool)).bind fun x12 =>
 if x12 = true then
 none
 else
 if (y3.fKind != 1) then
 some false
 else
 none
def ref09_locals_L1 (a0 : List GToken) (a1 : Int) : Nat → Option (Unit)
 | 0 => none
 | n + 1 =>
 (ref07_Begins a0 a1).bind fun y15 =>
 if y15 = true then
 if ((([] : List GVar).length : Int) == 12) then
 none
 else
 none
 else
 some ()
def ref09_locals (a0 : List GToken) (a1 : Int) (a2 : List (List UInt8)) : Option GGot_ref09 :=
 (ref09_locals_L1 a0 a1 (a0.length + 64)).bind fun _ =>
 some ({ fC := zGClass, fM := zGMethod, fV := [], fN := [], fNext := a1, fF := zGFault } : GGot_ref09)
def ref08_tok (a0 : List GToken) (a1 : Int) : Option GToken :=
 (ref06_Tok a0 a1).bind fun y1 =>
 some y1
def ref08_is (a0 : List GToken) (a1 : Int) (a2 : List UInt8) : Option Bool :=
 (ref08_tok a0 a1).bind fun y1 =>
 (ref03_Is y1 a2).bind fun y3 =>
 some y3
def ref08_whose (a0 : List GToken) (a1 : Int) : Option Bool :=
 (ref08_tok a0 a1).bind fun y1 =>
 if (y1.fKind == 1) then
 none
 else
 (ref08_is a0 a1 [116, 104, 105, 115]).bind fun (y4 : Bool) =>
 some y4
def ref08_args (a0 : List GToken) (a1 : Int) : Option GGot_ref08 :=
 (ref08_is a0 (w_i64 (a1 + 1)) [41]).bind fun (y3 : Bool) =>
 if y3 = true then
 some ({ fS := zGStmt, fL := [], fA := [], fNext := w_i64 ((w_i64 (a1 + 1)) + 1), fF := zGFault } : GGot_ref08)
 else
 none
def ref08_ends (a0 : List GToken) (a1 : Int) (a2 : GStmt) : Option GGot_ref08 :=
 (ref08_is a0 a1 [59]).bind fun (y3 : Bool) =>
 if (!y3) then
 none
 else
 some ({ fS := a2, fL := [], fA := [], fNext := w_i64 (a1 + 1), fF := zGFault } : GGot_ref08)
def ref06_tight (a0 : List GToken) (a1 : Int) (a2 : Int) : Option GGot_ref06 :=
 (ref06_Tok a0 a1).bind fun y3 =>
 ((ref03_Is y3 [40]).bind fun (y7 : Bool) =>
 if y7 = true then
 none
 else
 (ref03_Is y3 [33]).bind fun (y10 : Bool) =>
 if y10 = true then
 none
 else
 some () : Option (Unit)).bind fun _ =>
 (ref03_Is y3 [40]).bind fun (y17 : Bool) =>
 if y17 = true then
 none
 else
 (ref03_Is y3 [33]).bind fun (y22 : Bool) =>
 if y22 = true then
 none
 else
 ((ref03_Is y3 [110, 105, 108]).bind fun (y27 : Bool) =>
 if y27 = true then
 none
 else
 (ref03_Is y3 [115, 97, 109, 101]).bind fun (y30 : Bool) =>
 some y30 : Option (Bool)).bind fun x32 =>
 if x32 = true then
 none
 else
 (ref03_Is y3 [105, 110, 112, 117, 116]).bind fun (y38 : Bool) =>
 if y38 = true then
 none
 else
 (ref02_Number y3.fText).bind fun y43 =>
 (if (y3.fKind == 2) then
 some ()
 else
 none : Option (Unit)).bind fun _ =>
 if y43.2 = true then
 some ({ fE := ({ fKind := 1, fNum := y43.1, fName := [], fKids := [] } : GExpr), fNext := w_i64 (a1 + 1), fF := zGFault } : GGot_ref06)
 else
 none
def ref06_signs (a0 : Int) : Option (List (List UInt8)) :=
 (idx [[[38, 38]], [[60], [61, 61]], [[43], [45]], [[42]]] a0).bind fun (y1 : List (List UInt8)) =>
 some y1
def ref06_between_L1 (a0 : List GToken) (a1 : Int) (y3 : (List (List UInt8))) : Nat → Int → Option (Unit)
 | 0, _ => none
 | n + 1, x19 =>
 if (decide (x19 < (y3.length : Int))) then
 (ref06_Tok a0 a1).bind fun y42 =>
 (idx y3 x19).bind fun y44 =>
 (ref03_Is y42 y44).bind fun y46 =>
 if y46 = true then
 none
 else
 ref06_between_L1 a0 a1 y3 n (w_i64 (x19 + 1))
 else
 some ()
def ref06_between (a0 : List GToken) (a1 : Int) (a2 : Int) : Option (List UInt8) :=
 (ref06_signs a2).bind fun y3 =>
 (ref06_between_L1 a0 a1 y3 ((y3.length - 0 : Int).toNat + 1) 0).bind fun _ =>
 some []
def ref06_chain_L1 (a0 : List GToken) (a2 : Int) (a3 : Int) (y6 : GGot_ref06) (ref06_chain_rec : (List GToken) → Int → Int → Int → Option GGot_ref06) : Nat → Option (Unit)
 | 0 => none
 | n + 1 =>
 (if (y6.fF.fErr == 0) then
 (ref06_between a0 y6.fNext a2).bind fun y33 =>
 some (!(y33 == []))
 else
 none : Option (Bool)).bind fun x35 =>
 if x35 = true then
 (ref06_chain_rec a0 (w_i64 (y6.fNext + 1)) (w_i64 (a2 + 1)) a3).bind fun y41 =>
 if (y41.fF.fErr != 0) then
 none
 else
 none
 else
 some ()
def ref06_chain : Nat → (List GToken) → Int → Int → Int → Option GGot_ref06
 | 0, _, _, _, _ => none
 | n + 1, a0, a1, a2, a3 =>
 if (a2 == 4) then
 (ref06_tight a0 a1 a3).bind fun y2 =>
 some y2
 else
 ((ref06_chain n) a0 a1 (w_i64 (a2 + 1)) a3).bind fun y6 =>
 (ref06_chain_L1 a0 a2 a3 y6 (ref06_chain n) (a0.length + 64)).bind fun _ =>
 some y6
def ref06_Parse (a0 : List GToken) (a1 : Int) : Option GGot_ref06 :=
 (ref06_chain 8 a0 a1 0 0).bind fun y3 =>
 if (y3.fF.fErr != 0) then
 none
 else
 some y3
def ref08_point (a0 : List GToken) (a1 : Int) (a2 : GStmt) : Option GGot_ref08 :=
 (ref08_tok a0 a1).bind fun y3 =>
 (ref08_tok a0 (w_i64 (a1 + 2))).bind fun y7 =>
 if (y7.fKind != 1) then
 none
 else
 (ref08_tok a0 (w_i64 (a1 + 2))).bind fun y12 =>
 (ref08_is a0 (w_i64 (a1 + 3)) [40]).bind fun (y16 : Bool) =>
 if y16 = true then
 (ref08_args a0 (w_i64 (a1 + 3))).bind fun y21 =>
 if (y21.fF.fErr != 0) then
 none
 else
 (ref08_ends a0 y21.fNext ({ ({ ({ ({ a2 with fY := y3.fText } : GStmt) with fName := y12.fText } : GStmt) with fKind := 4 } : GStmt) with fArgs := y21.fA } : GStmt)).bind fun y24 =>
 some y24
 else
 if (!((({ ({ a2 with fY := y3.fText } : GStmt) with fName := y12.fText } : GStmt).fX) == [])) then
 none
 else
 (ref08_is a0 (w_i64 (a1 + 3)) [61]).bind fun (y29 : Bool) =>
 if (!y29) then
 none
 else
 (ref06_Parse a0 (w_i64 (a1 + 4))).bind fun y34 =>
 if (y34.fF.fErr != 0) then
 none
 else
 (ref08_ends a0 y34.fNext ({ ({ ({ ({ a2 with fY := y3.fText } : GStmt) with fName := y12.fText } : GStmt) with fKind := 3 } : GStmt) with fE := y34.fE } : GStmt)).bind fun y37 =>
 some y37
def ref08_Parse (a0 : List GToken) (a1 : Int) (a2 : List (List UInt8)) (a3 : Int) : Option GGot_ref08 :=
 (ref08_tok a0 a1).bind fun y3 =>
 if (decide (a3 ≥ 20)) then
 none
 else
 ((ref08_whose a0 a1).bind fun y8 =>
 if y8 = true then
 (ref08_is a0 (w_i64 (a1 + 1)) [46]).bind fun (y11 : Bool) =>
 some y11
 else
 none : Option (Bool)).bind fun x13 =>
 if x13 = true then
 (ref08_point a0 a1 ({ fKind := 0, fX := [], fY := [], fName := [], fType := zGType, fE := zGExpr, fArgs := [], fBody := [], fElse := [], fAt := y3.fAt } : GStmt)).bind fun y17 =>
 some y17
 else
 none
def ref09_method_L1 (a0 : List GToken) (a2 : List (List UInt8)) : Nat → Int → Int → (List GStmt) → Option (Int × (List GStmt))
 | 0, _, _, _ => none
 | n + 1, x35, x36, x37 =>
 (ref09_is a0 x35 [125]).bind fun (y62 : Bool) =>
 if (!y62) then
 (ref08_Parse a0 x35 a2 0).bind fun y67 =>
 if (y67.fF.fErr != 0) then
 none
 else
 (ref08_Size (mGStmt y67.fS + 1) y67.fS).bind fun (y72 : Int) =>
 if (decide ((w_i64 (x36 + y72)) > 400)) then
 none
 else
 (room ((x37.length : Int) + ([y67.fS].length : Int)) 288).bind fun u77 =>
 ref09_method_L1 a0 a2 n y67.fNext (w_i64 (x36 + y72)) (x37 ++ [y67.fS])
 else
 some (x35, x37)
def ref09_method (a0 : List GToken) (a1 : Int) (a2 : List (List UInt8)) (a3_0 : List UInt8) (a3_1 : Bool) (a3_2 : Int) (a3_3 : List UInt8) (a3_4 : Int) (a3_5 : Int) (a3_6 : Int) (a3_7 : Int) (a3_8 : Int) (a3_9 : Int) (a3_10 : Int) (a3_11 : Int) (a3_12 : Int) (a3_13 : List GVar) (a3_14 : List GVar) (a3_16 : Int) (a4 : Int) (b0 : List GStmt) : Option GGot_ref09 :=
 (ref09_params a0 a1 a2).bind fun y3 =>
 if (y3.fF.fErr != 0) then
 none
 else
 (ref09_is a0 y3.fNext [123]).bind fun (y8 : Bool) =>
 if (!y8) then
 none
 else
 (ref09_locals a0 (w_i64 (y3.fNext + 1)) a2).bind fun y13 =>
 if (y13.fF.fErr != 0) then
 none
 else
 (ref09_method_L1 a0 a2 (a0.length + 64) y13.fNext a4 b0).bind fun (x82, x83) =>
 some ({ fC := zGClass, fM := ({ fName := a3_0, fPure := a3_1, fRet := ({ fKind := a3_2, fClass := a3_3, fN := a3_4, fOwn := (⟨({ fKind := a3_5, fN := a3_6 } : GOwner), ({ fKind := a3_7, fN := a3_8 } : GOwner), ({ fKind := a3_9, fN := a3_10 } : GOwner), ({ fKind := a3_11, fN := a3_12 } : GOwner)⟩ : A4 GOwner) } : GType), fParams := y3.fV, fLocals := y13.fV, fBody := x83, fAt := a3_16 } : GMethod), fV := [], fN := [], fNext := w_i64 (x82 + 1), fF := zGFault } : GGot_ref09)
def ref09_member (a0 : List GToken) (a1 : Int) (a2_0 : List UInt8) (a2_1 : List (List UInt8)) (a2_2 : List UInt8) (a2_3 : List GOwner) (a2_6 : Int) (a3 : Int) (b0 : List GVar) (b1 : List GMethod) : Option ((List UInt8) × (List (List UInt8)) × (List UInt8) × (List GOwner) × (List GVar) × (List GMethod) × Int × (List UInt8) × Bool × Int × (List UInt8) × Int × Int × Int × Int × Int × Int × Int × Int × Int × (List GVar) × (List GVar) × (List GStmt) × Int × (List GVar) × (List (List UInt8)) × Int × Int × Int) :=
 (ref09_tok a0 a1).bind fun y3 =>
 (ref09_is a0 a1 [112, 117, 114, 101]).bind fun (y7 : Bool) =>
 (if y7 = true then
 some (w_i64 (a1 + 1))
 else
 some a1 : Option (Int)).bind fun x10 =>
 (ref07_Parse a0 x10 a2_1 true).bind fun y15 =>
 if (y15.fF.fErr != 0) then
 none
 else
 (ref09_tok a0 y15.fNext).bind fun y20 =>
 if (y20.fKind != 1) then
 none
 else
 (ref09_is a0 (w_i64 (y15.fNext + 1)) [40]).bind fun (y25 : Bool) =>
 if y25 = true then
 if ((b1.length : Int) == 12) then
 none
 else
 (ref09_method a0 (w_i64 (y15.fNext + 1)) a2_1 y20.fText y7 y15.fT.fKind y15.fT.fClass y15.fT.fN y15.fT.fOwn.a0.fKind y15.fT.fOwn.a0.fN y15.fT.fOwn.a1.fKind y15.fT.fOwn.a1.fN y15.fT.fOwn.a2.fKind y15.fT.fOwn.a2.fN y15.fT.fOwn.a3.fKind y15.fT.fOwn.a3.fN zGMethod.fParams zGMethod.fLocals y3.fAt a3 []).bind fun y31 =>
 if (y31.fF.fErr != 0) then
 none
 else
 (room ((b1.length : Int) + ([y31.fM].length : Int)) 200).bind fun u36 =>
 some (a2_0, a2_1, a2_2, a2_3, b0, (b1 ++ [y31.fM]), a2_6, zGGot_ref09.fM.fName, zGGot_ref09.fM.fPure, zGGot_ref09.fM.fRet.fKind, zGGot_ref09.fM.fRet.fClass, zGGot_ref09.fM.fRet.fN, zGGot_ref09.fM.fRet.fOwn.a0.fKind, zGGot_ref09.fM.fRet.fOwn.a0.fN, zGGot_ref09.fM.fRet.fOwn.a1.fKind, zGGot_ref09.fM.fRet.fOwn.a1.fN, zGGot_ref09.fM.fRet.fOwn.a2.fKind, zGGot_ref09.fM.fRet.fOwn.a2.fN, zGGot_ref09.fM.fRet.fOwn.a3.fKind, zGGot_ref09.fM.fRet.fOwn.a3.fN, zGGot_ref09.fM.fParams, zGGot_ref09.fM.fLocals, [], zGGot_ref09.fM.fAt, zGGot_ref09.fV, zGGot_ref09.fN, y31.fNext, zGGot_ref09.fF.fErr, zGGot_ref09.fF.fAt)
 else
 ((ref09_is a0 (w_i64 (y15.fNext + 1)) [59]).bind fun (y40 : Bool) =>
 if (!y40) then
 none
 else
 if y7 = true then
 none
 else
 some () : Option (Unit)).bind fun _ =>
 if (y15.fT.fKind == 0) then
 none
 else
 if ((b0.length : Int) == 12) then
 none
 else
 (room ((b0.length : Int) + ([({ fName := y20.fText, fType := y15.fT, fAt := y3.fAt } : GVar)].length : Int)) 120).bind fun u50 =>
 some (a2_0, a2_1, a2_2, a2_3, (b0 ++ [({ fName := y20.fText, fType := y15.fT, fAt := y3.fAt } : GVar)]), b1, a2_6, zGGot_ref09.fM.fName, zGGot_ref09.fM.fPure, zGGot_ref09.fM.fRet.fKind, zGGot_ref09.fM.fRet.fClass, zGGot_ref09.fM.fRet.fN, zGGot_ref09.fM.fRet.fOwn.a0.fKind, zGGot_ref09.fM.fRet.fOwn.a0.fN, zGGot_ref09.fM.fRet.fOwn.a1.fKind, zGGot_ref09.fM.fRet.fOwn.a1.fN, zGGot_ref09.fM.fRet.fOwn.a2.fKind, zGGot_ref09.fM.fRet.fOwn.a2.fN, zGGot_ref09.fM.fRet.fOwn.a3.fKind, zGGot_ref09.fM.fRet.fOwn.a3.fN, zGGot_ref09.fM.fParams, zGGot_ref09.fM.fLocals, [], zGGot_ref09.fM.fAt, zGGot_ref09.fV, zGGot_ref09.fN, w_i64 ((w_i64 (y15.fNext + 1)) + 1), zGGot_ref09.fF.fErr, zGGot_ref09.fF.fAt)
def ref09_class_L1 (a0 : List GToken) (a2 : Int) : Nat → Int → (List UInt8) → (List (List UInt8)) → (List UInt8) → (List GOwner) → (List GVar) → (List GMethod) → Int → Option (Int × (List UInt8) × (List (List UInt8)) × (List UInt8) × (List GOwner) × (List GVar) × (List GMethod) × Int)
 | 0, _, _, _, _, _, _, _, _ => none
 | n + 1, x43, x44, x45, x46, x47, x48, x49, x50 =>
 (ref09_is a0 x43 [125]).bind fun (y75 : Bool) =>
 if (!y75) then
 (ref09_Stmts ({ fName := x44, fParams := x45, fSuper := x46, fAbove := x47, fFields := x48, fMethods := x49, fAt := x50 } : GClass)).bind fun (y82 : Int) =>
 (ref09_member a0 x43 x44 x45 x46 x47 x50 (w_i64 (a2 + y82)) x48 x49).bind fun y84 =>
 if (y84.2.2.2.2.2.2.2.2.2.2.2.2.2.2.2.2.2.2.2.2.2.2.2.2.2.2.2.1 != 0) then
 none
 else
 ref09_class_L1 a0 a2 n y84.2.2.2.2.2.2.2.2.2.2.2.2.2.2.2.2.2.2.2.2.2.2.2.2.2.2.1 y84.1 y84.2.1 y84.2.2.1 y84.2.2.2.1 y84.2.2.2.2.1 y84.2.2.2.2.2.1 y84.2.2.2.2.2.2.1
 else
 some (x43, x44, x45, x46, x47, x48, x49, x50)
def ref09_class (a0 : List GToken) (a1 : Int) (a2 : Int) : Option GGot_ref09 :=
 (ref09_tok a0 a1).bind fun y3 =>
 (ref09_tok a0 (w_i64 (a1 + 1))).bind fun y7 =>
 if (y7.fKind != 1) then
 none
 else
 (ref09_tok a0 (w_i64 (a1 + 1))).bind fun y12 =>
 (ref09_is a0 (w_i64 (a1 + 2)) [60]).bind fun (y16 : Bool) =>
 if y16 = true then
 none
 else
 (ref09_is a0 (w_i64 (a1 + 2)) [101, 120, 116, 101, 110, 100, 115]).bind fun (y21 : Bool) =>
 if y21 = true then
 none
 else
 (ref09_is a0 (w_i64 (a1 + 2)) [123]).bind fun (y26 : Bool) =>
 if (!y26) then
 none
 else
 (ref09_class_L1 a0 a2 (a0.length + 64) (w_i64 ((w_i64 (a1 + 2)) + 1)) y12.fText zGClass.fParams zGClass.fSuper zGClass.fAbove [] [] y3.fAt).bind fun (x95, x96, x97, x98, x99, x100, x101, x102) =>
 some ({ fC := ({ fName := x96, fParams := x97, fSuper := x98, fAbove := x99, fFields := x100, fMethods := x101, fAt := x102 } : GClass), fM := zGMethod, fV := [], fN := [], fNext := w_i64 (x95 + 1), fF := zGFault } : GGot_ref09)
def ref09_Of_L1 (y3 : (List GToken) × GFault) : Nat → (List GClass) → Int → Int → Option ((List GClass))
 | 0, _, _, _ => none
 | n + 1, x30, x31, x32 =>
 (ref09_tok y3.1 x31).bind fun y62 =>
 if (y62.fKind != 0) then
 (ref09_is y3.1 x31 [99, 108, 97, 115, 115]).bind fun (y67 : Bool) =>
 if (!y67) then
 none
 else
 if ((x30.length : Int) == 20) then
 none
 else
 (ref09_class y3.1 x31 x32).bind fun y73 =>
 if (y73.fF.fErr != 0) then
 none
 else
 (room ((x30.length : Int) + ([y73.fC].length : Int)) 136).bind fun u78 =>
 (ref09_Stmts y73.fC).bind fun (y82 : Int) =>
 ref09_Of_L1 y3 n (x30 ++ [y73.fC]) y73.fNext (w_i64 (x32 + y82))
 else
 some x30
def ref09_Of (a0 : List UInt8) : Option ((List GClass) × GFault) :=
 (ref03_Of a0).bind fun y3 =>
 if (y3.2.fErr != 0) then
 none
 else
 (ref09_Of_L1 y3 (a0.length + 64) [] 0 0).bind fun x87 =>
 some (x87, ({ fErr := 0, fAt := 0 } : GFault))
def arena_body (a0 : GMethod) : Option GMethod :=
 some a0
def arena_inner_y_L1 (a0 : List GStmt) (a1 : Int) (sp : Nat) (rows : List (Int × GStmt)) (arena_inner_y_rec : Nat → (List GStmt) → Int → Option (Bool × Nat)) : Nat → Nat → Int → Option (Ctl (Bool × Nat) (Nat))
 | 0, _, _ => none
 | n + 1, x25, x26 =>
 if (decide (x26 < (a0.length : Int))) then
 ((idx a0 x26).bind fun y58 =>
 (yck rows sp x25 (a1, y58)).bind fun u60 =>
 if (!(!(x25 == sp))) then
 some ((x25 + 1), true)
 else
 (idx a0 x26).bind fun y63 =>
 (arena_inner_y_rec (x25 + 1) y63.fBody (w_i64 (a1 + 1))).bind fun y65 =>
 if (!y65.1) then
 some (y65.2, true)
 else
 (idx a0 x26).bind fun y68 =>
 (arena_inner_y_rec y65.2 y68.fElse (w_i64 (a1 + 1))).bind fun y70 =>
 some (y70.2, (!y70.1)) : Option (Nat × Bool)).bind fun (x72, x73) =>
 if x73 = true then
 some (.stop (false, x72))
 else
 arena_inner_y_L1 a0 a1 sp rows arena_inner_y_rec n x72 (w_i64 (x26 + 1))
 else
 some (.next x25)
def arena_inner_y (rows : List (Int × GStmt)) (sp : Nat) : Nat → Nat → (List GStmt) → Int → Option (Bool × Nat)
 | 0, _, _, _ => none
 | n + 1, k0, a0, a1 =>
 (arena_inner_y_L1 a0 a1 sp rows (arena_inner_y rows sp n) ((a0.length - 0 : Int).toNat + 1) k0 0).bind fun lr80 =>
 Ctl.elim lr80 (fun v => some v) fun x79 =>
 some (true, x79)
def arena_body_1 (rows : List (Int × GStmt)) (sp : Nat) (c0 : GMethod) : Option Nat :=
 (arena_inner_y rows sp (mLGStmt c0.fBody + 1) 0 c0.fBody 0).bind fun y1 =>
 some y1.2
mutual
def preS (d : Int) : GStmt → List (Int × GStmt)
 | ⟨z0, z1, z2, z3, z4, z5, z6, z7, z8, z9⟩ => (d, ⟨z0, z1, z2, z3, z4, z5, z6, z7, z8, z9⟩) :: (preSL (d + 1) z7 ++ preSL (d + 1) z8)
def preSL (d : Int) : List GStmt → List (Int × GStmt)
 | [] => []
 | x :: l => preS d x ++ preSL d l
end
def itR_stmts (m : GMethod) : Option (List (Int × GStmt)) := if mLGStmt m.fBody ≤ 1000000 then some (preSL 0 m.fBody) else none
def arena_Stmts_B3 (x111 : Int) (x261 : Int) : Int × GStmt → (List GLine_arena) → Option (Ctl Unit (List GLine_arena))
 | (x315, x316), x309 =>
 (room ((x309.length : Int) + ([({ fClass := x111, fMethod := x261, fDeep := x315, fS := x316 } : GLine_arena)].length : Int)) 312).bind fun u317 =>
 some (.next (x309 ++ [({ fClass := x111, fMethod := x261, fDeep := x315, fS := x316 } : GLine_arena)]))
def arena_Stmts_L2 (x111 : Int) (y226 : GClass) : Nat → (List GLine_arena) → Int → Option ((List GLine_arena))
 | 0, _, _ => none
 | n + 1, x260, x261 =>
 if (decide (x261 < (y226.fMethods.length : Int))) then
 (idx y226.fMethods x261).bind fun y299 =>
 (arena_body y299).bind fun y303 =>
 (itR_stmts y303).bind fun (rows320 : List (Int × GStmt)) =>
 (runs (arena_Stmts_B3 x111 x261) rows320 x260).bind fun (lr322 : Ctl Unit (List GLine_arena)) =>
 Ctl.elim lr322 (fun _ => none) (fun x309 =>
 arena_Stmts_L2 x111 y226 n x309 (w_i64 (x261 + 1)))
 else
 some x260
def arena_Stmts_L1 (a0 : List GClass) : Nat → (List GLine_arena) → Int → Option ((List GLine_arena))
 | 0, _, _ => none
 | n + 1, x110, x111 =>
 if (decide (x111 < (a0.length : Int))) then
 (idx a0 x111).bind fun y226 =>
 (arena_Stmts_L2 x111 y226 ((y226.fMethods.length - 0 : Int).toNat + 1) x110 0).bind fun x330 =>
 arena_Stmts_L1 a0 n x330 (w_i64 (x111 + 1))
 else
 some x110
def arena_Stmts (a0 : List GClass) : Option (List GLine_arena) :=
 (arena_Stmts_L1 a0 ((a0.length - 0 : Int).toNat + 1) [] 0).bind fun x334 =>
 some x334
def pure_Changes (a0 : List GClass) (a1 : GClass) (a2 : GMethod) (a3 : GStmt) : Option Bool :=
 if (a3.fKind == 3) then
 some true
 else
 none
def pure_Check_L1 (a0 : List GClass) (y3 : (List GLine_arena)) : Nat → Option (Ctl (GFault) (Unit))
 | 0 => none
 | n + 1 =>
 if (decide (0 < (y3.length : Int))) then
 (idx y3 0).bind fun y48 =>
 (idx a0 y48.fClass).bind fun y52 =>
 (idx y52.fMethods y48.fMethod).bind fun y56 =>
 (if y56.fPure = true then
 (pure_Changes a0 y52 y56 y48.fS).bind fun y59 =>
 some y59
 else
 none : Option (Bool)).bind fun x61 =>
 if x61 = true then
 some (.stop ({ fErr := 20, fAt := y48.fS.fAt } : GFault))
 else
 none
 else
 some (.next ())
def pure_Check (a0 : List GClass) : Option GFault :=
 (arena_Stmts a0).bind fun y3 =>
 (pure_Check_L1 a0 y3 ((y3.length - 0 : Int).toNat + 1)).bind fun lr65 =>
 Ctl.elim lr65 (fun v => some v) fun _ =>
 some ({ fErr := 0, fAt := 0 } : GFault)
def slices_IndexFunc_api_Class_L1 (a0 : List GClass) (q1 : GClass → Option Bool) : Nat → Int → Option (Ctl (Int) (Unit))
 | 0, _ => none
 | n + 1, x11 =>
 if (decide (x11 < (a0.length : Int))) then
 (idx a0 x11).bind fun y28 =>
 (q1 y28).bind fun y30 =>
 if y30 = true then
 some (.stop x11)
 else
 slices_IndexFunc_api_Class_L1 a0 q1 n (w_i64 (x11 + 1))
 else
 some (.next ())
def slices_IndexFunc_api_Class (a0 : List GClass) (q1 : GClass → Option Bool) : Option Int :=
 (slices_IndexFunc_api_Class_L1 a0 q1 ((a0.length - 0 : Int).toNat + 1) 0).bind fun lr34 =>
 Ctl.elim lr34 (fun v => some v) fun _ =>
 some (-1)
def table_Find_1 (a0 : GClass) (c0 : List UInt8) : Option Bool :=
 some (a0.fName == c0)
def table_Find (a0 : List GClass) (a1 : List UInt8) : Option Int :=
 (slices_IndexFunc_api_Class a0 (fun (z1 : GClass) => table_Find_1 z1 a1)).bind fun (y2 : Int) =>
 some y2
def above_up (a0 : List GClass) (a1 : List UInt8) : Option ((List GClass) × (List UInt8)) :=
 some (a0, a1)
def above_up_1_L1 (c0 : List GClass) (sp : Nat) (rows : List (Int)) : Nat → Nat → (List UInt8) → Int → Option (Ctl (Nat) (Nat))
 | 0, _, _, _ => none
 | n + 1, x19, x20, x21 =>
 if (decide (x21 < (w_i64 ((c0.length : Int) + 1)))) then
 (table_Find c0 x20).bind fun (y46 : Int) =>
 (if (decide (y46 < 0)) then
 some (x19, true)
 else
 (yck rows sp x19 y46).bind fun u49 =>
 some ((x19 + 1), (!(!(x19 == sp)))) : Option (Nat × Bool)).bind fun (x51, x52) =>
 if x52 = true then
 some (.stop x51)
 else
 (idx c0 y46).bind fun y58 =>
 if (y58.fSuper == []) then
 some (.stop x51)
 else
 above_up_1_L1 c0 sp rows n x51 y58.fSuper (w_i64 (x21 + 1))
 else
 some (.next x19)
def above_up_1 (rows : List (Int)) (sp : Nat) (c0 : List GClass) (c1 : List UInt8) : Option Nat :=
 (above_up_1_L1 c0 sp rows ((((w_i64 ((c0.length : Int) + 1)) : Int) - (0)).toNat + 1) 0 c1 0).bind fun lr65 =>
 Ctl.elim lr65 (fun v => some v) fun x64 =>
 some x64
def itR_up_n (p : List GClass) : Nat → List UInt8 → Option (List Int)
 | 0, _ => some []
 | n + 1, name => (table_Find p name).bind fun i =>
 if i < 0 then some [] else
 (idx p i).bind fun c =>
 if c.fSuper == [] then some [i] else
 (itR_up_n p n c.fSuper).bind fun l => some (i :: l)
def itR_up (p : List GClass) (name : List UInt8) : Option (List Int) := if p.length < 9223372036854775806 then itR_up_n p (p.length + 1) name else none
def above_Below_B1 (y3 : Int) : Int → Unit → Option (Ctl Unit Unit)
 | x13, _ =>
 if (x13 == y3) then
 some (.stop ())
 else
 some (.next ())
def above_Below (a0 : List GClass) (a1 : List UInt8) (a2 : List UInt8) : Option Bool :=
 (table_Find a0 a2).bind fun (y3 : Int) =>
 (above_up a0 a1).bind fun y7 =>
 (itR_up y7.1 y7.2).bind fun (rows15 : List (Int)) =>
 (runs (above_Below_B1 y3) rows15 ()).bind fun (lr17 : Ctl Unit Unit) =>
 Ctl.elim lr17 (fun _ =>
 some true) (fun _ =>
 some false)
def slices_Index_int_L1 (a0 : List Int) (a1 : Int) : Nat → Int → Option (Ctl (Int) (Unit))
 | 0, _ => none
 | n + 1, x7 =>
 if (decide (x7 < (a0.length : Int))) then
 (idx a0 x7).bind fun (y18 : Int) =>
 if (a1 == y18) then
 some (.stop x7)
 else
 slices_Index_int_L1 a0 a1 n (w_i64 (x7 + 1))
 else
 some (.next ())
def slices_Index_int (a0 : List Int) (a1 : Int) : Option Int :=
 (slices_Index_int_L1 a0 a1 ((a0.length - 0 : Int).toNat + 1) 0).bind fun lr22 =>
 Ctl.elim lr22 (fun v => some v) fun _ =>
 some (-1)
def slices_Contains_int (a0 : List Int) (a1 : Int) : Option Bool :=
 (slices_Index_int a0 a1).bind fun (y1 : Int) =>
 some (decide (y1 ≥ 0))
def above_Chain_B1  : Int → (List Int) → Option (Ctl (List Int) (List Int))
 | x23, x13 =>
 (slices_Contains_int x13 x23).bind fun y26 =>
 if y26 = true then
 some (.stop x13)
 else
 (room ((x13.length : Int) + ([x23].length : Int)) 8).bind fun u29 =>
 some (.next (x13 ++ [x23]))
def above_Chain (a0 : List GClass) (a1 : List UInt8) : Option (List Int) :=
 (above_up a0 a1).bind fun y3 =>
 (itR_up y3.1 y3.2).bind fun (rows33 : List (Int)) =>
 (runs above_Chain_B1 rows33 []).bind fun (lr35 : Ctl (List Int) (List Int)) =>
 Ctl.elim lr35 (fun x32 =>
 some x32) (fun x13 =>
 some x13)
def method_first_1_w (a0 : Gheld_method) (b0 : List UInt8) (b1 : List GClass) (b2 : GFound_method) (b3 : Bool) : Option (Bool × GFound_method × Bool) :=
 if (a0.fMethod.fName == b0) then
 (idx b1 a0.fclass).bind fun y2 =>
 some ((!true), ({ ({ zGFound_method with fClass := y2.fName } : GFound_method) with fMethod := a0.fMethod } : GFound_method), true)
 else
 some ((!b3), b2, b3)
def method_walk_w_L2 (b0 : List UInt8) (b1 : List GClass) (y114 : Int) (y118 : GClass) : Nat → GFound_method → Bool → Int → Option (Ctl (GFound_method × Bool) (GFound_method × Bool))
 | 0, _, _, _ => none
 | n + 1, x130, x131, x132 =>
 if (decide (x132 < (y118.fMethods.length : Int))) then
 (idx y118.fMethods x132).bind fun y149 =>
 (method_first_1_w ({ fMethod := y149, fclass := y114 } : Gheld_method) b0 b1 x130 x131).bind fun y153 =>
 if (!y153.1) then
 some (.stop (y153.2.1, y153.2.2))
 else
 method_walk_w_L2 b0 b1 y114 y118 n y153.2.1 y153.2.2 (w_i64 (x132 + 1))
 else
 some (.next (x130, x131))
def method_walk_w_L1 (a0 : List GClass) (a1 : List Int) (b0 : List UInt8) (b1 : List GClass) : Nat → GFound_method → Bool → Int → Option (Ctl (GFound_method × Bool) (GFound_method × Bool))
 | 0, _, _, _ => none
 | n + 1, x53, x54, x55 =>
 if (decide (x55 < (a1.length : Int))) then
 (idx a1 x55).bind fun (y114 : Int) =>
 (idx a0 y114).bind fun y118 =>
 (method_walk_w_L2 b0 b1 y114 y118 ((y118.fMethods.length - 0 : Int).toNat + 1) x53 x54 0).bind fun lr161 =>
 Ctl.elim lr161 (fun v => some (.stop v)) fun (x159, x160) =>
 method_walk_w_L1 a0 a1 b0 b1 n x159 x160 (w_i64 (x55 + 1))
 else
 some (.next (x53, x54))
def method_walk_w (a0 : List GClass) (a1 : List Int) (b0 : List UInt8) (b1 : List GClass) (b2 : GFound_method) (b3 : Bool) : Option (GFound_method × Bool) :=
 (method_walk_w_L1 a0 a1 b0 b1 ((a1.length - 0 : Int).toNat + 1) b2 b3 0).bind fun lr168 =>
 Ctl.elim lr168 (fun v => some v) fun (x166, x167) =>
 some (x166, x167)
def method_first (a0 : List GClass) (a1 : List Int) (a2 : List UInt8) : Option (GFound_method × Bool) :=
 (method_walk_w a0 a1 a2 a0 ({ fClass := [], fMethod := zGMethod } : GFound_method) false).bind fun y3 =>
 some (y3.1, y3.2)
def method_Find (a0 : List GClass) (a1 : List UInt8) (a2 : List UInt8) : Option (GFound_method × Bool) :=
 (above_Chain a0 a1).bind fun y1 =>
 (method_first a0 y1 a2).bind fun y3 =>
 some (y3.1, y3.2)
def slices_IndexFunc_api_Method_L1 (a0 : List GMethod) (q1 : GMethod → Option Bool) : Nat → Int → Option (Ctl (Int) (Unit))
 | 0, _ => none
 | n + 1, x11 =>
 if (decide (x11 < (a0.length : Int))) then
 (idx a0 x11).bind fun y28 =>
 (q1 y28).bind fun y30 =>
 if y30 = true then
 some (.stop x11)
 else
 slices_IndexFunc_api_Method_L1 a0 q1 n (w_i64 (x11 + 1))
 else
 some (.next ())
def slices_IndexFunc_api_Method (a0 : List GMethod) (q1 : GMethod → Option Bool) : Option Int :=
 (slices_IndexFunc_api_Method_L1 a0 q1 ((a0.length - 0 : Int).toNat + 1) 0).bind fun lr34 =>
 Ctl.elim lr34 (fun v => some v) fun _ =>
 some (-1)
def __pure_walker__call_1 (a0 : GMethod) (c0 : List UInt8) : Option Bool :=
 some (a0.fName == c0)
def __pure_walker__call_w_L1 (a1 : List UInt8) (a2 : List UInt8) (b0_0 : List GClass) : Nat → Nat → (List UInt8 → Option Int) → (List (A2 Int)) → Int → Option (Nat × (List UInt8 → Option Int) × (List (A2 Int)))
 | 0, _, _, _, _ => none
 | n + 1, x54, x55, x56, x57 =>
 if (decide (x57 < (b0_0.length : Int))) then
 ((idx b0_0 x57).bind fun y118 =>
 (above_Below b0_0 y118.fName a1).bind fun y122 =>
 if (!y122) then
 some (x54, x55, x56)
 else
 (method_Find b0_0 y118.fName a2).bind fun y127 =>
 if (!y127.2) then
 some (x54, x55, x56)
 else
 (table_Find b0_0 y127.1.fClass).bind fun (y132 : Int) =>
 (idx b0_0 y132).bind fun y139 =>
 (slices_IndexFunc_api_Method y139.fMethods (fun (z141 : GMethod) => __pure_walker__call_1 z141 a2)).bind fun (y142 : Int) =>
 (mget2 x55 ((⟨y132, y142⟩ : A2 Int).a0) ((⟨y132, y142⟩ : A2 Int).a1)).bind fun (y150 : Int) =>
 (ment x54 ((⟨y132, y142⟩ : A2 Int).a0) ((⟨y132, y142⟩ : A2 Int).a1)).bind fun u152 =>
 (chk64 (w_i64 (y150 + 1))).bind fun u154 =>
 (mget2 (mset2 x55 (kb2 ((⟨y132, y142⟩ : A2 Int).a0) ((⟨y132, y142⟩ : A2 Int).a1)) (w_i64 (y150 + 1))) ((⟨y132, y142⟩ : A2 Int).a0) ((⟨y132, y142⟩ : A2 Int).a1)).bind fun (y158 : Int) =>
 if (y158 == 1) then
 (room ((x56.length : Int) + ([(⟨y132, y142⟩ : A2 Int)].length : Int)) 16).bind fun u161 =>
 some ((x54 + 1), mset2 x55 (kb2 ((⟨y132, y142⟩ : A2 Int).a0) ((⟨y132, y142⟩ : A2 Int).a1)) (w_i64 (y150 + 1)), (x56 ++ [(⟨y132, y142⟩ : A2 Int)]))
 else
 some ((x54 + 1), mset2 x55 (kb2 ((⟨y132, y142⟩ : A2 Int).a0) ((⟨y132, y142⟩ : A2 Int).a1)) (w_i64 (y150 + 1)), x56) : Option (Nat × (List UInt8 → Option Int) × (List (A2 Int)))).bind fun (x163, x164, x165) =>
 __pure_walker__call_w_L1 a1 a2 b0_0 n x163 x164 x165 (w_i64 (x57 + 1))
 else
 some (x54, x55, x56)
def __pure_walker__call_w (a1 : List UInt8) (a2 : List UInt8) (b0_0 : List GClass) (b1 : Nat × (List UInt8 → Option Int)) (b2 : List (A2 Int)) : Option ((Nat × (List UInt8 → Option Int)) × (List (A2 Int))) :=
 (__pure_walker__call_w_L1 a1 a2 b0_0 ((b0_0.length - 0 : Int).toNat + 1) b1.1 b1.2 b2 0).bind fun (x172, x173, x174) =>
 some ((x172, x173), x174)
def raise_This_L1 (a0 : GClass) : Nat → (List GOwner) → Int → Option ((List GOwner))
 | 0, _, _ => none
 | n + 1, x10, x11 =>
 if (decide (x11 < ((List.replicate (w_i64 ((a0.fParams.length : Int) + 1) : Int).toNat zGOwner).length : Int))) then
 (idx x10 x11).bind fun y22 =>
 raise_This_L1 a0 n (x10.set (x11 : Int).toNat ({ fKind := 3, fN := x11 } : GOwner)) (w_i64 (x11 + 1))
 else
 some x10
def raise_This (a0 : GClass) : Option (List GOwner) :=
 (mkOk (w_i64 ((a0.fParams.length : Int) + 1)) (w_i64 ((a0.fParams.length : Int) + 1)) 16).bind fun u3 =>
 (raise_This_L1 a0 (((((List.replicate (w_i64 ((a0.fParams.length : Int) + 1) : Int).toNat zGOwner).length : Int) : Int) - (0)).toNat + 1) (List.replicate (w_i64 ((a0.fParams.length : Int) + 1) : Int).toNat zGOwner) 0).bind fun x26 =>
 (idx x26 0).bind fun y28 =>
 some (x26.set (0 : Int).toNat ({ fKind := 2, fN := 0 } : GOwner))
def scope_This (a0 : GClass) : Option GType :=
 (raise_This a0).bind fun y1 =>
 some ({ ({ ({ fKind := 2, fClass := a0.fName, fN := 0, fOwn := (⟨zGOwner, zGOwner, zGOwner, zGOwner⟩ : A4 GOwner) } : GType) with fOwn := (A4.cp (({ fKind := 2, fClass := a0.fName, fN := 0, fOwn := (⟨zGOwner, zGOwner, zGOwner, zGOwner⟩ : A4 GOwner) } : GType).fOwn) y1) } : GType) with fN := w_i64 ((Nat.min (List.map eGOwner y1).length 4 : Nat) - 1) } : GType)
def slices_IndexFunc_api_Var_L1 (a0 : List GVar) (q1 : GVar → Option Bool) : Nat → Int → Option (Ctl (Int) (Unit))
 | 0, _ => none
 | n + 1, x11 =>
 if (decide (x11 < (a0.length : Int))) then
 (idx a0 x11).bind fun y28 =>
 (q1 y28).bind fun y30 =>
 if y30 = true then
 some (.stop x11)
 else
 slices_IndexFunc_api_Var_L1 a0 q1 n (w_i64 (x11 + 1))
 else
 some (.next ())
def slices_IndexFunc_api_Var (a0 : List GVar) (q1 : GVar → Option Bool) : Option Int :=
 (slices_IndexFunc_api_Var_L1 a0 q1 ((a0.length - 0 : Int).toNat + 1) 0).bind fun lr34 =>
 Ctl.elim lr34 (fun v => some v) fun _ =>
 some (-1)
def scope_Place_1 (a0 : GVar) (c0 : List UInt8) : Option Bool :=
 some (a0.fName == c0)
def scope_Place (a0 : GMethod) (a1 : List UInt8) : Option Int :=
 (slices_IndexFunc_api_Var a0.fParams (fun (z4 : GVar) => scope_Place_1 z4 a1)).bind fun (y5 : Int) =>
 if (decide (y5 ≥ 0)) then
 some y5
 else
 (slices_IndexFunc_api_Var a0.fLocals (fun (z11 : GVar) => scope_Place_1 z11 a1)).bind fun (y12 : Int) =>
 if (decide (y12 < 0)) then
 some (-1)
 else
 some (w_i64 ((a0.fParams.length : Int) + y12))
def slices_Grow_api_Var (a1 : Int) : Option (List GVar) :=
 if (decide (a1 < 0)) then
 none
 else
 if (decide ((w_i64 (a1 - (w_i64 (0 - 0)))) > 0)) then
 (zerOk (w_i64 (a1 - (w_i64 (0 - 0)))) 120).bind fun u3 =>
 (cutL (List.replicate (w_i64 (a1 - (w_i64 (0 - 0))) : Int).toNat zGVar) 0 0).bind fun y5 =>
 some y5
 else
 some []
def slices_Concat_api_Var_L1 (a0 : List (List GVar)) : Nat → Int → Int → Option (Int)
 | 0, _, _ => none
 | n + 1, x7, x8 =>
 if (decide (x8 < (a0.length : Int))) then
 (idx a0 x8).bind fun y20 =>
 if (decide ((w_i64 (x7 + (y20.length : Int))) < 0)) then
 none
 else
 slices_Concat_api_Var_L1 a0 n (w_i64 (x7 + (y20.length : Int))) (w_i64 (x8 + 1))
 else
 some x7
def slices_Concat_api_Var_L2 (a0 : List (List GVar)) : Nat → (List GVar) → Int → Option ((List GVar))
 | 0, _, _ => none
 | n + 1, x40, x41 =>
 if (decide (x41 < (a0.length : Int))) then
 (idx a0 x41).bind fun y56 =>
 (room ((x40.length : Int) + (y56.length : Int)) 120).bind fun u60 =>
 slices_Concat_api_Var_L2 a0 n (x40 ++ y56) (w_i64 (x41 + 1))
 else
 some x40
def slices_Concat_api_Var (a0 : List (List GVar)) : Option (List GVar) :=
 (slices_Concat_api_Var_L1 a0 ((a0.length - 0 : Int).toNat + 1) 0 0).bind fun x25 =>
 (slices_Grow_api_Var x25).bind fun y29 =>
 (slices_Concat_api_Var_L2 a0 ((a0.length - 0 : Int).toNat + 1) y29 0).bind fun x64 =>
 some x64
def arena_Vars (a0 : GMethod) : Option (List GVar) :=
 (slices_Concat_api_Var [a0.fParams, a0.fLocals]).bind fun y1 =>
 some y1
def scope_Type (a0 : GClass) (a1 : GMethod) (a2 : List UInt8) : Option (GType × Bool) :=
 if (a2 == [116, 104, 105, 115]) then
 (scope_This a0).bind fun y2 =>
 some (y2, true)
 else
 (scope_Place a1 a2).bind fun (y6 : Int) =>
 if (decide (y6 < 0)) then
 some (({ fKind := 0, fClass := [], fN := 0, fOwn := (⟨zGOwner, zGOwner, zGOwner, zGOwner⟩ : A4 GOwner) } : GType), false)
 else
 (arena_Vars a1).bind fun y9 =>
 (idx y9 y6).bind fun y11 =>
 some (y11.fType, true)
def __pure_walker__body_w_L1 (a1 : GClass) (a2 : GMethod) (a3 : List GStmt) (b0_0 : List GClass) (__pure_walker__body_w_rec : GClass → GMethod → (List GStmt) → (List GClass) → (Nat × (List UInt8 → Option Int)) → (List (A2 Int)) → Option ((Nat × (List UInt8 → Option Int)) × (List (A2 Int)))) : Nat → Nat → (List UInt8 → Option Int) → (List (A2 Int)) → Int → Option (Nat × (List UInt8 → Option Int) × (List (A2 Int)))
 | 0, _, _, _, _ => none
 | n + 1, x31, x32, x33, x34 =>
 if (decide (x34 < (a3.length : Int))) then
 (idx a3 x34).bind fun y72 =>
 ((scope_Type a1 a2 y72.fY).bind fun y76 =>
 (if y76.2 = true then
 if (y72.fKind == 4) then
 some (y76.1.fKind == 2)
 else
 some false
 else
 some false : Option (Bool)).bind fun x80 =>
 if x80 = true then
 (__pure_walker__call_w y76.1.fClass y72.fName b0_0 (x31, x32) x33).bind fun y84 =>
 some (y84.1.1, y84.1.2, y84.2)
 else
 some (x31, x32, x33) : Option (Nat × (List UInt8 → Option Int) × (List (A2 Int)))).bind fun (x86, x87, x88) =>
 (__pure_walker__body_w_rec a1 a2 y72.fBody b0_0 (x86, x87) x88).bind fun y93 =>
 (__pure_walker__body_w_rec a1 a2 y72.fElse b0_0 (y93.1.1, y93.1.2) y93.2).bind fun y97 =>
 __pure_walker__body_w_L1 a1 a2 a3 b0_0 __pure_walker__body_w_rec n y97.1.1 y97.1.2 y97.2 (w_i64 (x34 + 1))
 else
 some (x31, x32, x33)
def __pure_walker__body_w : Nat → GClass → GMethod → (List GStmt) → (List GClass) → (Nat × (List UInt8 → Option Int)) → (List (A2 Int)) → Option ((Nat × (List UInt8 → Option Int)) × (List (A2 Int)))
 | 0, _, _, _, _, _, _ => none
 | n + 1, a1, a2, a3, b0_0, b1, b2 =>
 (__pure_walker__body_w_L1 a1 a2 a3 b0_0 (__pure_walker__body_w n) ((a3.length - 0 : Int).toNat + 1) b1.1 b1.2 b2 0).bind fun (x103, x104, x105) =>
 some ((x103, x104), x105)

def pure_Runs_L1 (a0 : List GClass) (a1 : List UInt8) : Nat → Nat → (List UInt8 → Option Int) → (List (A2 Int)) → Int → Option (Nat × (List UInt8 → Option Int) × (List (A2 Int)))
 | 0, _, _, _, _ => none
 | n + 1, x26, x27, x28, x29 =>
 if (decide (x29 < (x28.length : Int))) then
 (idx x28 x29).bind fun y60 =>
 (idx a0 y60.a0).bind fun y62 =>
 (idx x28 x29).bind fun y68 =>
 (idx y62.fMethods y68.a1).bind fun y70 =>
 (__pure_walker__body_w (mLGStmt y70.fBody + 1) y62 y70 y70.fBody a0 (x26, x27) x28).bind fun y74 =>
 pure_Runs_L1 a0 a1 n y74.1.1 y74.1.2 y74.2 (w_i64 (x29 + 1))
 else
 some (x26, x27, x28)
def pure_Runs (a0 : List GClass) (a1 : List UInt8) (a2 : List UInt8) : Option (List (A2 Int)) :=
 (__pure_walker__call_w a1 a2 a0 (0, (fun _ => none)) []).bind fun y3 =>
 (pure_Runs_L1 a0 a1 ((a0.map fun c => c.fMethods.length).foldr (· + ·) 0 + 1) y3.1.1 y3.1.2 y3.2 0).bind fun (x80, x81, x82) =>
 (sortP x82).bind fun y87 =>
 some y87
def law22_awake  : Option Bool :=
 (ref09_Of [99, 108, 97, 115, 115, 32, 65, 32, 123, 32, 105, 110, 116, 32, 110, 59, 32, 112, 117, 114, 101, 32, 118, 111, 105, 100, 32, 109, 40, 41, 32, 123, 32, 116, 104, 105, 115, 46, 110, 32, 61, 32, 49, 59, 32, 125, 32, 118, 111, 105, 100, 32, 107, 40, 41, 32, 123, 32, 116, 104, 105, 115, 46, 109, 40, 41, 59, 32, 125, 32, 125]).bind fun (y3 : (List GClass) × GFault) =>
 (pure_Check y3.1).bind fun y5 =>
 if (bGFault y5 ({ fErr := 20, fAt := 33 } : GFault)) then
 (pure_Runs y3.1 [65] [107]).bind fun (y8 : (List (A2 Int))) =>
 some ((y8.length : Int) == 2)
 else
 none
def ref13_Find_L1 (a0 : List GClass) (a1 : List UInt8) : Nat → Int → Option (Ctl (Int) (Unit))
 | 0, _ => none
 | n + 1, x7 =>
 if (decide (x7 < (a0.length : Int))) then
 (idx a0 x7).bind fun y18 =>
 if (y18.fName == a1) then
 some (.stop x7)
 else
 ref13_Find_L1 a0 a1 n (w_i64 (x7 + 1))
 else
 some (.next ())
def ref13_Find (a0 : List GClass) (a1 : List UInt8) : Option Int :=
 (ref13_Find_L1 a0 a1 ((a0.length - 0 : Int).toNat + 1) 0).bind fun lr22 =>
 Ctl.elim lr22 (fun v => some v) fun _ =>
 some (-1)
def ref14_has_L1 (a0 : List Int) (a1 : Int) : Nat → Int → Option (Ctl (Bool) (Unit))
 | 0, _ => none
 | n + 1, x7 =>
 if (decide (x7 < (a0.length : Int))) then
 (idx a0 x7).bind fun (y18 : Int) =>
 if (y18 == a1) then
 some (.stop true)
 else
 ref14_has_L1 a0 a1 n (w_i64 (x7 + 1))
 else
 some (.next ())
def ref14_has (a0 : List Int) (a1 : Int) : Option Bool :=
 (ref14_has_L1 a0 a1 ((a0.length - 0 : Int).toNat + 1) 0).bind fun lr22 =>
 Ctl.elim lr22 (fun v => some v) fun _ =>
 some false
def ref14_Chain_L1 (a0 : List GClass) : Nat → (List Int) → Int → Option (Ctl ((List Int)) ((List Int)))
 | 0, _, _ => none
 | n + 1, x25, x26 =>
 (if (decide (x26 ≥ 0)) then
 (ref14_has x25 x26).bind fun y50 =>
 some (!y50)
 else
 some false : Option (Bool)).bind fun x52 =>
 if x52 = true then
 (room ((x25.length : Int) + ([x26].length : Int)) 8).bind fun u58 =>
 (idx a0 x26).bind fun y62 =>
 if (y62.fSuper == []) then
 some (.stop (x25 ++ [x26]))
 else
 (idx a0 x26).bind fun y65 =>
 (ref13_Find a0 y65.fSuper).bind fun (y67 : Int) =>
 ref14_Chain_L1 a0 n (x25 ++ [x26]) y67
 else
 some (.next x25)
def ref14_Chain (a0 : List GClass) (a1 : List UInt8) : Option (List Int) :=
 (ref13_Find a0 a1).bind fun (y3 : Int) =>
 (ref14_Chain_L1 a0 (a0.length + 2) [] y3).bind fun lr72 =>
 Ctl.elim lr72 (fun v => some v) fun x71 =>
 some x71
def ref17_own_L1 (a0 : GClass) (a1 : List UInt8) : Nat → Int → Option (Ctl (GFound_ref17 × Bool) (Unit))
 | 0, _ => none
 | n + 1, x9 =>
 if (decide (x9 < (a0.fMethods.length : Int))) then
 (idx a0.fMethods x9).bind fun y22 =>
 if (y22.fName == a1) then
 (idx a0.fMethods x9).bind fun y25 =>
 some (.stop (({ fClass := a0.fName, fMethod := y25 } : GFound_ref17), true))
 else
 ref17_own_L1 a0 a1 n (w_i64 (x9 + 1))
 else
 some (.next ())
def ref17_own (a0 : GClass) (a1 : List UInt8) : Option (GFound_ref17 × Bool) :=
 (ref17_own_L1 a0 a1 ((a0.fMethods.length - 0 : Int).toNat + 1) 0).bind fun lr28 =>
 Ctl.elim lr28 (fun v => some v) fun _ =>
 some (({ fClass := [], fMethod := zGMethod } : GFound_ref17), false)
def ref17_among_L1 (a0 : List GClass) (a1 : List Int) (a2 : List UInt8) : Nat → Int → Option (Ctl (GFound_ref17 × Bool) (Unit))
 | 0, _ => none
 | n + 1, x15 =>
 if (decide (x15 < (a1.length : Int))) then
 (idx a1 x15).bind fun (y38 : Int) =>
 (idx a0 y38).bind fun y40 =>
 (ref17_own y40 a2).bind fun y42 =>
 if y42.2 = true then
 some (.stop (y42.1, true))
 else
 ref17_among_L1 a0 a1 a2 n (w_i64 (x15 + 1))
 else
 some (.next ())
def ref17_among (a0 : List GClass) (a1 : List Int) (a2 : List UInt8) : Option (GFound_ref17 × Bool) :=
 (ref17_among_L1 a0 a1 a2 ((a1.length - 0 : Int).toNat + 1) 0).bind fun lr46 =>
 Ctl.elim lr46 (fun v => some v) fun _ =>
 some (({ fClass := [], fMethod := zGMethod } : GFound_ref17), false)
def ref17_Find (a0 : List GClass) (a1 : List UInt8) (a2 : List UInt8) : Option (GFound_ref17 × Bool) :=
 (ref14_Chain a0 a1).bind fun y1 =>
 (ref17_among a0 y1 a2).bind fun y3 =>
 some (y3.1, y3.2)
def ref14_Below (a0 : List GClass) (a1 : List UInt8) (a2 : List UInt8) : Option Bool :=
 (ref13_Find a0 a2).bind fun (y3 : Int) =>
 if (decide (y3 ≥ 0)) then
 (ref14_Chain a0 a1).bind fun y6 =>
 (ref14_has y6 y3).bind fun y8 =>
 some y8
 else
 some false
def ref22_place_L1 (a0 : GClass) (a1 : List UInt8) : Nat → Int → Option (Ctl (Int) (Unit))
 | 0, _ => none
 | n + 1, x7 =>
 if (decide (x7 < (a0.fMethods.length : Int))) then
 (idx a0.fMethods x7).bind fun y18 =>
 if (y18.fName == a1) then
 some (.stop x7)
 else
 ref22_place_L1 a0 a1 n (w_i64 (x7 + 1))
 else
 some (.next ())
def ref22_place (a0 : GClass) (a1 : List UInt8) : Option Int :=
 (ref22_place_L1 a0 a1 ((a0.fMethods.length - 0 : Int).toNat + 1) 0).bind fun lr22 =>
 Ctl.elim lr22 (fun v => some v) fun _ =>
 some (-1)
def ref22_runs_L2 (a0 : List GClass) (a1 : List GCall_ref22) (a2 : Int) (a3 : Int) (y7 : GMethod) (x120 : Int) : Nat → Int → Option (Ctl (Bool) (Unit))
 | 0, _ => none
 | n + 1, x269 =>
 if (decide (x269 < (a0.length : Int))) then
 (idx a0 x269).bind fun y313 =>
 (idx a1 x120).bind fun y315 =>
 (ref17_Find a0 y313.fName y315.fName).bind fun y317 =>
 (if y317.2 = true then
 (idx a0 x269).bind fun y320 =>
 (idx a1 x120).bind fun y322 =>
 (ref14_Below a0 y320.fName y322.fClass).bind fun y324 =>
 if y324 = true then
 (ref13_Find a0 y317.1.fClass).bind fun (y327 : Int) =>
 if (y327 == a2) then
 (idx a1 x120).bind fun y330 =>
 if (y7.fName == y330.fName) then
 (idx a0 a2).bind fun y333 =>
 (ref22_place y333 y7.fName).bind fun (y335 : Int) =>
 some (y335 == a3)
 else
 some false
 else
 some false
 else
 some false
 else
 some false : Option (Bool)).bind fun x337 =>
 if x337 = true then
 some (.stop true)
 else
 ref22_runs_L2 a0 a1 a2 a3 y7 x120 n (w_i64 (x269 + 1))
 else
 some (.next ())
def ref22_runs_L1 (a0 : List GClass) (a1 : List GCall_ref22) (a2 : Int) (a3 : Int) (y7 : GMethod) : Nat → Int → Option (Ctl (Bool) (Unit))
 | 0, _ => none
 | n + 1, x120 =>
 if (decide (x120 < (a1.length : Int))) then
 (ref22_runs_L2 a0 a1 a2 a3 y7 x120 ((a0.length - 0 : Int).toNat + 1) 0).bind fun lr342 =>
 Ctl.elim lr342 (fun v => some (.stop v)) fun _ =>
 ref22_runs_L1 a0 a1 a2 a3 y7 n (w_i64 (x120 + 1))
 else
 some (.next ())
def ref22_runs (a0 : List GClass) (a1 : List GCall_ref22) (a2 : Int) (a3 : Int) : Option Bool :=
 (idx a0 a2).bind fun y5 =>
 (idx y5.fMethods a3).bind fun y7 =>
 (ref22_runs_L1 a0 a1 a2 a3 y7 ((a1.length - 0 : Int).toNat + 1) 0).bind fun lr345 =>
 Ctl.elim lr345 (fun v => some v) fun _ =>
 some false
def ref12_lines_L1 (a0 : List GStmt) (a1 : GLine_ref12) (ref12_lines_rec : (List GStmt) → GLine_ref12 → Option (List GLine_ref12)) : Nat → (List GLine_ref12) → Int → Option ((List GLine_ref12))
 | 0, _, _ => none
 | n + 1, x34, x35 =>
 if (decide (x35 < (a0.length : Int))) then
 (idx a0 x35).bind fun y74 =>
 (room ((x34.length : Int) + ([({ a1 with fS := y74 } : GLine_ref12)].length : Int)) 312).bind fun u78 =>
 (idx a0 x35).bind fun y86 =>
 (ref12_lines_rec y86.fBody ({ ({ a1 with fS := y74 } : GLine_ref12) with fDeep := w_i64 ((({ a1 with fS := y74 } : GLine_ref12).fDeep) + 1) } : GLine_ref12)).bind fun y88 =>
 (room (((x34 ++ [({ a1 with fS := y74 } : GLine_ref12)]).length : Int) + (y88.length : Int)) 312).bind fun u90 =>
 (idx a0 x35).bind fun y98 =>
 (ref12_lines_rec y98.fElse ({ ({ a1 with fS := y74 } : GLine_ref12) with fDeep := w_i64 ((({ a1 with fS := y74 } : GLine_ref12).fDeep) + 1) } : GLine_ref12)).bind fun y100 =>
 (room ((((x34 ++ [({ a1 with fS := y74 } : GLine_ref12)]) ++ y88).length : Int) + (y100.length : Int)) 312).bind fun u102 =>
 ref12_lines_L1 a0 a1 ref12_lines_rec n (((x34 ++ [({ a1 with fS := y74 } : GLine_ref12)]) ++ y88) ++ y100) (w_i64 (x35 + 1))
 else
 some x34
def ref12_lines : Nat → (List GStmt) → GLine_ref12 → Option (List GLine_ref12)
 | 0, _, _ => none
 | n + 1, a0, a1 =>
 (ref12_lines_L1 a0 a1 (ref12_lines n) ((a0.length - 0 : Int).toNat + 1) [] 0).bind fun x106 =>
 some x106
def ref12_Stmts_L2 (a0 : List GClass) (x76 : Int) : Nat → (List GLine_ref12) → Int → Option ((List GLine_ref12))
 | 0, _, _ => none
 | n + 1, x175, x176 =>
 (idx a0 x76).bind fun y202 =>
 if (decide (x176 < (y202.fMethods.length : Int))) then
 (idx a0 x76).bind fun y213 =>
 (idx y213.fMethods x176).bind fun y215 =>
 (ref12_lines (mLGStmt y215.fBody + mGLine_ref12 ({ fClass := x76, fMethod := x176, fDeep := 0, fS := zGStmt } : GLine_ref12) + 1) y215.fBody ({ fClass := x76, fMethod := x176, fDeep := 0, fS := zGStmt } : GLine_ref12)).bind fun y217 =>
 (room ((x175.length : Int) + (y217.length : Int)) 312).bind fun u219 =>
 ref12_Stmts_L2 a0 x76 n (x175 ++ y217) (w_i64 (x176 + 1))
 else
 some x175
def ref12_Stmts_L1 (a0 : List GClass) : Nat → (List GLine_ref12) → Int → Option ((List GLine_ref12))
 | 0, _, _ => none
 | n + 1, x75, x76 =>
 if (decide (x76 < (a0.length : Int))) then
 (ref12_Stmts_L2 a0 x76 (Option.getD ((idx a0 x76).bind fun y225 => some ((y225.fMethods.length - 0 : Int).toNat + 1)) 1) x75 0).bind fun x223 =>
 ref12_Stmts_L1 a0 n x223 (w_i64 (x76 + 1))
 else
 some x75
def ref12_Stmts (a0 : List GClass) : Option (List GLine_ref12) :=
 (ref12_Stmts_L1 a0 ((a0.length - 0 : Int).toNat + 1) [] 0).bind fun x229 =>
 some x229
def ref15_This_L1 (a0 : GClass) : Nat → (List GOwner) → Int → Option ((List GOwner))
 | 0, _, _ => none
 | n + 1, x6, x7 =>
 if (decide (x7 < (a0.fParams.length : Int))) then
 (room ((x6.length : Int) + ([({ fKind := 3, fN := w_i64 (x7 + 1) } : GOwner)].length : Int)) 16).bind fun u18 =>
 ref15_This_L1 a0 n (x6 ++ [({ fKind := 3, fN := w_i64 (x7 + 1) } : GOwner)]) (w_i64 (x7 + 1))
 else
 some x6
def ref15_This (a0 : GClass) : Option (List GOwner) :=
 (ref15_This_L1 a0 ((a0.fParams.length - 0 : Int).toNat + 1) [({ fKind := 2, fN := 0 } : GOwner)] 0).bind fun x22 =>
 some x22
def ref18_This_L1 (y3 : (List GOwner)) : Nat → GType → Int → Option (GType)
 | 0, _, _ => none
 | n + 1, x10, x11 =>
 if (decide (x11 ≤ x10.fN)) then
 (idx y3 x11).bind fun y28 =>
 (idx (x10.fOwn).l x11).bind fun y30 =>
 ref18_This_L1 y3 n ({ x10 with fOwn := (A4.set x10.fOwn (x11 : Int).toNat y28) } : GType) (w_i64 (x11 + 1))
 else
 some x10
def ref18_This (a0 : GClass) : Option GType :=
 (ref15_This a0).bind fun y3 =>
 (ref18_This_L1 y3 5 ({ fKind := 2, fClass := a0.fName, fN := (if (a0.fParams.length : Int) < 3 then (a0.fParams.length : Int) else 3), fOwn := (⟨zGOwner, zGOwner, zGOwner, zGOwner⟩ : A4 GOwner) } : GType) 0).bind fun x34 =>
 some x34
def ref12_Vars (a0 : GMethod) : Option (List GVar) :=
 (room ((([] : List GVar).length : Int) + (a0.fParams.length : Int)) 120).bind fun u1 =>
 (room (((([] : List GVar) ++ a0.fParams).length : Int) + (a0.fLocals.length : Int)) 120).bind fun u3 =>
 some ((([] : List GVar) ++ a0.fParams) ++ a0.fLocals)
def ref18_Place_L1 (a1 : List UInt8) (y3 : (List GVar)) : Nat → Int → Option (Ctl (Int) (Unit))
 | 0, _ => none
 | n + 1, x11 =>
 if (decide (x11 < (y3.length : Int))) then
 (idx y3 x11).bind fun y22 =>
 if (y22.fName == a1) then
 some (.stop x11)
 else
 ref18_Place_L1 a1 y3 n (w_i64 (x11 + 1))
 else
 some (.next ())
def ref18_Place (a0 : GMethod) (a1 : List UInt8) : Option Int :=
 (ref12_Vars a0).bind fun y3 =>
 (ref18_Place_L1 a1 y3 ((y3.length - 0 : Int).toNat + 1) 0).bind fun lr26 =>
 Ctl.elim lr26 (fun v => some v) fun _ =>
 some (-1)
def ref18_Type (a0 : GClass) (a1 : GMethod) (a2 : List UInt8) : Option (GType × Bool) :=
 if (a2 == [116, 104, 105, 115]) then
 (ref18_This a0).bind fun y2 =>
 some (y2, true)
 else
 (ref18_Place a1 a2).bind fun (y6 : Int) =>
 if (decide (y6 < 0)) then
 some (({ fKind := 0, fClass := [], fN := 0, fOwn := (⟨zGOwner, zGOwner, zGOwner, zGOwner⟩ : A4 GOwner) } : GType), false)
 else
 (ref12_Vars a1).bind fun y9 =>
 (idx y9 y6).bind fun y11 =>
 some (y11.fType, true)
def ref22_calls_L1 (a2 : GMethod) (y3 : GClass) (y7 : (List GLine_ref12)) : Nat → (List GCall_ref22) → Int → Option ((List GCall_ref22))
 | 0, _, _ => none
 | n + 1, x33, x34 =>
 if (decide (x34 < (y7.length : Int))) then
 ((idx y7 x34).bind fun y66 =>
 (ref18_Type ({ y3 with fMethods := [a2] } : GClass) a2 y66.fS.fY).bind fun y68 =>
 (if y68.2 = true then
 (idx y7 x34).bind fun y71 =>
 if (y71.fS.fKind == 4) then
 some (y68.1.fKind == 2)
 else
 some false
 else
 some false : Option (Bool)).bind fun x74 =>
 if x74 = true then
 (idx y7 x34).bind fun y78 =>
 (room ((x33.length : Int) + ([({ fClass := y68.1.fClass, fName := y78.fS.fName } : GCall_ref22)].length : Int)) 32).bind fun u80 =>
 some (x33 ++ [({ fClass := y68.1.fClass, fName := y78.fS.fName } : GCall_ref22)])
 else
 some x33 : Option ((List GCall_ref22))).bind fun x82 =>
 ref22_calls_L1 a2 y3 y7 n x82 (w_i64 (x34 + 1))
 else
 some x33
def ref22_calls (a0 : List GClass) (a1 : Int) (a2 : GMethod) : Option (List GCall_ref22) :=
 (idx a0 a1).bind fun y3 =>
 (ref12_Stmts [({ y3 with fMethods := [a2] } : GClass)]).bind fun y7 =>
 (ref22_calls_L1 a2 y3 y7 ((y7.length - 0 : Int).toNat + 1) [] 0).bind fun x87 =>
 some x87
def ref22_has_L1 (a0 : List GCall_ref22) (a1 : GCall_ref22) : Nat → Int → Option (Ctl (Bool) (Unit))
 | 0, _ => none
 | n + 1, x7 =>
 if (decide (x7 < (a0.length : Int))) then
 (idx a0 x7).bind fun y18 =>
 if (bGCall_ref22 y18 a1) then
 some (.stop true)
 else
 ref22_has_L1 a0 a1 n (w_i64 (x7 + 1))
 else
 some (.next ())
def ref22_has (a0 : List GCall_ref22) (a1 : GCall_ref22) : Option Bool :=
 (ref22_has_L1 a0 a1 ((a0.length - 0 : Int).toNat + 1) 0).bind fun lr22 =>
 Ctl.elim lr22 (fun v => some v) fun _ =>
 some false
def ref22_Runs_L4 (y2618 : (List GCall_ref22)) : Nat → (List GCall_ref22) → Int → Option ((List GCall_ref22))
 | 0, _, _ => none
 | n + 1, x2637, x2638 =>
 if (decide (x2638 < (y2618.length : Int))) then
 ((idx y2618 x2638).bind fun y2663 =>
 (ref22_has x2637 y2663).bind fun y2665 =>
 if (!y2665) then
 (idx y2618 x2638).bind fun y2668 =>
 (room ((x2637.length : Int) + ([y2668].length : Int)) 32).bind fun u2670 =>
 some (x2637 ++ [y2668])
 else
 some x2637 : Option ((List GCall_ref22))).bind fun x2672 =>
 ref22_Runs_L4 y2618 n x2672 (w_i64 (x2638 + 1))
 else
 some x2637
def ref22_Runs_L3 (a0 : List GClass) (x900 : List GCall_ref22) (x2098 : Int) : Nat → (List GCall_ref22) → (List (A2 Int)) → Int → Option ((List GCall_ref22) × (List (A2 Int)))
 | 0, _, _, _ => none
 | n + 1, x2491, x2492, x2493 =>
 (idx a0 x2098).bind fun y2592 =>
 if (decide (x2493 < (y2592.fMethods.length : Int))) then
 ((cutL x2491 0 (x900.length : Int)).bind fun y2599 =>
 (ref22_runs a0 y2599 x2098 x2493).bind fun y2601 =>
 if (!y2601) then
 some (x2491, x2492)
 else
 (room ((x2492.length : Int) + ([(⟨x2098, x2493⟩ : A2 Int)].length : Int)) 16).bind fun u2606 =>
 (idx a0 x2098).bind fun y2614 =>
 (idx y2614.fMethods x2493).bind fun y2616 =>
 (ref22_calls a0 x2098 y2616).bind fun y2618 =>
 (ref22_Runs_L4 y2618 ((y2618.length - 0 : Int).toNat + 1) x2491 0).bind fun x2677 =>
 some (x2677, (x2492 ++ [(⟨x2098, x2493⟩ : A2 Int)])) : Option ((List GCall_ref22) × (List (A2 Int)))).bind fun (x2679, x2680) =>
 ref22_Runs_L3 a0 x900 x2098 n x2679 x2680 (w_i64 (x2493 + 1))
 else
 some (x2491, x2492)
def ref22_Runs_L2 (a0 : List GClass) (x900 : List GCall_ref22) : Nat → (List GCall_ref22) → (List (A2 Int)) → Int → Option ((List GCall_ref22) × (List (A2 Int)))
 | 0, _, _, _ => none
 | n + 1, x2096, x2097, x2098 =>
 if (decide (x2098 < (a0.length : Int))) then
 (ref22_Runs_L3 a0 x900 x2098 (Option.getD ((idx a0 x2098).bind fun y2690 => some ((y2690.fMethods.length - 0 : Int).toNat + 1)) 1) x2096 x2097 0).bind fun (x2686, x2687) =>
 ref22_Runs_L2 a0 x900 n x2686 x2687 (w_i64 (x2098 + 1))
 else
 some (x2096, x2097)
def ref22_Runs_L1 (a0 : List GClass) : Nat → (List GCall_ref22) → Option (Ctl ((List (A2 Int))) (Unit))
 | 0, _ => none
 | n + 1, x900 =>
 (ref22_Runs_L2 a0 x900 ((a0.length - 0 : Int).toNat + 1) x900 [] 0).bind fun (x2695, x2696) =>
 if ((x2695.length : Int) == (x900.length : Int)) then
 some (.stop x2696)
 else
 ref22_Runs_L1 a0 n x2695
def ref22_Runs (a0 : List GClass) (a1 : List UInt8) (a2 : List UInt8) : Option (List (A2 Int)) :=
 (ref22_Runs_L1 a0 (mLGClass a0 + 2) [({ fClass := a1, fName := a2 } : GCall_ref22)]).bind fun lr2701 => Ctl.elim lr2701 (fun v => some v) fun _ => none
def law22_PureRuns_L1 (y16 : (List (A2 Int))) (y18 : (List (A2 Int))) : Nat → Int → Option (Ctl (Bool) (Unit))
 | 0, _ => none
 | n + 1, x31 =>
 if (decide (x31 < (y16.length : Int))) then
 (idx y16 x31).bind fun y48 =>
 (idx y18 x31).bind fun y50 =>
 if (!(bA2Int y48 y50)) then
 some (.stop false)
 else
 law22_PureRuns_L1 y16 y18 n (w_i64 (x31 + 1))
 else
 some (.next ())
def law22_PureRuns (a0 : List GClass) (a1 : List UInt8) (a2 : List UInt8) : Option Bool :=
 ((ref10_Heavy a0).bind fun y3 =>
 if y3 = true then
 some true
 else
 some (decide ((a0.length : Int) > 8)) : Option (Bool)).bind fun x6 =>
 if x6 = true then
 Option.bind law22_awake fun (y10 : Bool) =>
 some y10
 else
 (pure_Runs a0 a1 a2).bind fun y16 =>
 (ref22_Runs a0 a1 a2).bind fun y18 =>
 if ((y16.length : Int) != (y18.length : Int)) then
 some false
 else
 (law22_PureRuns_L1 y16 y18 ((y16.length - 0 : Int).toNat + 1) 0).bind fun lr54 =>
 Ctl.elim lr54 (fun v => some v) fun _ =>
 Option.bind law22_awake fun (y56 : Bool) =>
 some y56
end
end Go.Proofs.YtiefoagopfeibaaGreat
