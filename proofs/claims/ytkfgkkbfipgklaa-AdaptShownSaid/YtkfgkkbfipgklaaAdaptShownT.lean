/- A part of the proof that the law AdaptShown gives true for every input. -/
import Derived.Test.YtkfgkkbfipgklaaAdaptShownA3
import Derived.Test.YtkfgkkbfipgklaaAdaptShownX
/- The types and the plain functions. -/
namespace Go.Proofs.Ytkfgkkbfipgklaa
open Go.RowKit Go.Abs
noncomputable section
structure GOwner where
  fKind : Int
  fN : Int
  deriving DecidableEq
abbrev zGOwner : GOwner := ({ fKind := 0, fN := 0 } : GOwner)
abbrev eGOwner (x : GOwner) : List PV := [.int .i64 x.fKind, .int .i64 x.fN]
structure GType where
  fKind : Int
  fClass : List UInt8
  fN : Int
  fOwn : A4 GOwner
  deriving DecidableEq
abbrev zGType : GType := ({ fKind := 0, fClass := [], fN := 0, fOwn := (⟨zGOwner, zGOwner, zGOwner, zGOwner⟩ : A4 GOwner) } : GType)
abbrev eGType (x : GType) : List PV := [.int .i64 x.fKind, .str x.fClass, .int .i64 x.fN, .int .i64 x.fOwn.a0.fKind, .int .i64 x.fOwn.a0.fN, .int .i64 x.fOwn.a1.fKind, .int .i64 x.fOwn.a1.fN, .int .i64 x.fOwn.a2.fKind, .int .i64 x.fOwn.a2.fN, .int .i64 x.fOwn.a3.fKind, .int .i64 x.fOwn.a3.fN]
structure GVar where
  fName : List UInt8
  fType : GType
  fAt : Int
  deriving DecidableEq
abbrev zGVar : GVar := ({ fName := [], fType := zGType, fAt := 0 } : GVar)
abbrev eGVar (x : GVar) : List PV := [.str x.fName, .int .i64 x.fType.fKind, .str x.fType.fClass, .int .i64 x.fType.fN, .int .i64 x.fType.fOwn.a0.fKind, .int .i64 x.fType.fOwn.a0.fN, .int .i64 x.fType.fOwn.a1.fKind, .int .i64 x.fType.fOwn.a1.fN, .int .i64 x.fType.fOwn.a2.fKind, .int .i64 x.fType.fOwn.a2.fN, .int .i64 x.fType.fOwn.a3.fKind, .int .i64 x.fType.fOwn.a3.fN, .int .i64 x.fAt]
structure GExpr where
  fKind : Int
  fNum : Int
  fName : List UInt8
  fKids : List GExpr
abbrev zGExpr : GExpr := ({ fKind := 0, fNum := 0, fName := [], fKids := [] } : GExpr)
mutual
def rGExpr : GExpr → List PV
  | ⟨z0, z1, z2, z3⟩ => [.int .i64 z0, .int .i64 z1, .str z2, .vs 4 (eLGExpr z3)]
def eLGExpr : List GExpr → List (List PV)
  | [] => []
  | x :: l => rGExpr x :: eLGExpr l
end
abbrev eGExpr (x : GExpr) : List PV := [.int .i64 x.fKind, .int .i64 x.fNum, .str x.fName, .vs 4 (eLGExpr x.fKids)]
theorem rGExpr_eq (x : GExpr) : rGExpr x = eGExpr x := by cases x; simp only [rGExpr]
theorem eLGExpr_map : ∀ l : List GExpr, eLGExpr l = l.map eGExpr
  | [] => by simp only [eLGExpr, List.map_nil]
  | x :: l => by simp only [eLGExpr, List.map_cons, rGExpr_eq, eLGExpr_map l]
mutual
def mGExpr : GExpr → Nat
  | ⟨_, _, _, z3⟩ => 1 + mLGExpr z3
def mLGExpr : List GExpr → Nat
  | [] => 0
  | x :: l => mGExpr x + mLGExpr l
end
structure GStmt where
  fKind : Int
  fX : List UInt8
  fY : List UInt8
  fName : List UInt8
  fType : GType
  fE : GExpr
  fArgs : List GExpr
  fBody : List GStmt
  fElse : List GStmt
  fAt : Int
abbrev zGStmt : GStmt := ({ fKind := 0, fX := [], fY := [], fName := [], fType := zGType, fE := zGExpr, fArgs := [], fBody := [], fElse := [], fAt := 0 } : GStmt)
mutual
def rGStmt : GStmt → List PV
  | ⟨z0, z1, z2, z3, z4, z5, z6, z7, z8, z9⟩ => [.int .i64 z0, .str z1, .str z2, .str z3, .int .i64 z4.fKind, .str z4.fClass, .int .i64 z4.fN, .int .i64 z4.fOwn.a0.fKind, .int .i64 z4.fOwn.a0.fN, .int .i64 z4.fOwn.a1.fKind, .int .i64 z4.fOwn.a1.fN, .int .i64 z4.fOwn.a2.fKind, .int .i64 z4.fOwn.a2.fN, .int .i64 z4.fOwn.a3.fKind, .int .i64 z4.fOwn.a3.fN, .int .i64 z5.fKind, .int .i64 z5.fNum, .str z5.fName, .vs 4 (eLGExpr z5.fKids), .vs 4 (eLGExpr z6), .vs 23 (eLGStmt z7), .vs 23 (eLGStmt z8), .int .i64 z9]
def eLGStmt : List GStmt → List (List PV)
  | [] => []
  | x :: l => rGStmt x :: eLGStmt l
end
abbrev eGStmt (x : GStmt) : List PV := [.int .i64 x.fKind, .str x.fX, .str x.fY, .str x.fName, .int .i64 x.fType.fKind, .str x.fType.fClass, .int .i64 x.fType.fN, .int .i64 x.fType.fOwn.a0.fKind, .int .i64 x.fType.fOwn.a0.fN, .int .i64 x.fType.fOwn.a1.fKind, .int .i64 x.fType.fOwn.a1.fN, .int .i64 x.fType.fOwn.a2.fKind, .int .i64 x.fType.fOwn.a2.fN, .int .i64 x.fType.fOwn.a3.fKind, .int .i64 x.fType.fOwn.a3.fN, .int .i64 x.fE.fKind, .int .i64 x.fE.fNum, .str x.fE.fName, .vs 4 (eLGExpr x.fE.fKids), .vs 4 (eLGExpr x.fArgs), .vs 23 (eLGStmt x.fBody), .vs 23 (eLGStmt x.fElse), .int .i64 x.fAt]
theorem rGStmt_eq (x : GStmt) : rGStmt x = eGStmt x := by cases x; simp only [rGStmt]
theorem eLGStmt_map : ∀ l : List GStmt, eLGStmt l = l.map eGStmt
  | [] => by simp only [eLGStmt, List.map_nil]
  | x :: l => by simp only [eLGStmt, List.map_cons, rGStmt_eq, eLGStmt_map l]
mutual
def mGStmt : GStmt → Nat
  | ⟨_, _, _, _, _, z5, z6, z7, z8, _⟩ => 1 + mGExpr z5 + mLGExpr z6 + mLGStmt z7 + mLGStmt z8
def mLGStmt : List GStmt → Nat
  | [] => 0
  | x :: l => mGStmt x + mLGStmt l
end
structure GMethod where
  fName : List UInt8
  fPure : Bool
  fRet : GType
  fParams : List GVar
  fLocals : List GVar
  fBody : List GStmt
  fAt : Int
abbrev zGMethod : GMethod := ({ fName := [], fPure := false, fRet := zGType, fParams := [], fLocals := [], fBody := [], fAt := 0 } : GMethod)
def mGMethod : GMethod → Nat
  | ⟨_, _, _, _, _, z5, _⟩ => 1 + mLGStmt z5
def mLGMethod : List GMethod → Nat
  | [] => 0
  | x :: l => mGMethod x + mLGMethod l
abbrev eGMethod (x : GMethod) : List PV := [.str x.fName, .bool x.fPure, .int .i64 x.fRet.fKind, .str x.fRet.fClass, .int .i64 x.fRet.fN, .int .i64 x.fRet.fOwn.a0.fKind, .int .i64 x.fRet.fOwn.a0.fN, .int .i64 x.fRet.fOwn.a1.fKind, .int .i64 x.fRet.fOwn.a1.fN, .int .i64 x.fRet.fOwn.a2.fKind, .int .i64 x.fRet.fOwn.a2.fN, .int .i64 x.fRet.fOwn.a3.fKind, .int .i64 x.fRet.fOwn.a3.fN, .vs 13 (List.map eGVar x.fParams), .vs 13 (List.map eGVar x.fLocals), .vs 23 (eLGStmt x.fBody), .int .i64 x.fAt]
structure GClass where
  fName : List UInt8
  fParams : List (List UInt8)
  fSuper : List UInt8
  fAbove : List GOwner
  fFields : List GVar
  fMethods : List GMethod
  fAt : Int
abbrev zGClass : GClass := ({ fName := [], fParams := [], fSuper := [], fAbove := [], fFields := [], fMethods := [], fAt := 0 } : GClass)
def mGClass : GClass → Nat
  | ⟨_, _, _, _, _, z5, _⟩ => 1 + mLGMethod z5
def mLGClass : List GClass → Nat
  | [] => 0
  | x :: l => mGClass x + mLGClass l
abbrev eGClass (x : GClass) : List PV := [.str x.fName, .vs 1 (List.map eS x.fParams), .str x.fSuper, .vs 2 (List.map eGOwner x.fAbove), .vs 13 (List.map eGVar x.fFields), .vs 17 (List.map eGMethod x.fMethods), .int .i64 x.fAt]
structure GView_adapt where
  fMode : Int
  fObject : GType
  fThis : Bool
  deriving DecidableEq
abbrev zGView_adapt : GView_adapt := ({ fMode := 0, fObject := zGType, fThis := false } : GView_adapt)
abbrev eGView_adapt (x : GView_adapt) : List PV := [.int .i64 x.fMode, .int .i64 x.fObject.fKind, .str x.fObject.fClass, .int .i64 x.fObject.fN, .int .i64 x.fObject.fOwn.a0.fKind, .int .i64 x.fObject.fOwn.a0.fN, .int .i64 x.fObject.fOwn.a1.fKind, .int .i64 x.fObject.fOwn.a1.fN, .int .i64 x.fObject.fOwn.a2.fKind, .int .i64 x.fObject.fOwn.a2.fN, .int .i64 x.fObject.fOwn.a3.fKind, .int .i64 x.fObject.fOwn.a3.fN, .bool x.fThis]
def bGType (a b : GType) : Bool := (a.fKind == b.fKind && (a.fClass == b.fClass && (a.fN == b.fN && (a.fOwn.a0.fKind == b.fOwn.a0.fKind && (a.fOwn.a0.fN == b.fOwn.a0.fN && (a.fOwn.a1.fKind == b.fOwn.a1.fKind && (a.fOwn.a1.fN == b.fOwn.a1.fN && (a.fOwn.a2.fKind == b.fOwn.a2.fKind && (a.fOwn.a2.fN == b.fOwn.a2.fN && (a.fOwn.a3.fKind == b.fOwn.a3.fKind && (a.fOwn.a3.fN == b.fOwn.a3.fN && true)))))))))))
def bGOwner (a b : GOwner) : Bool := (a.fKind == b.fKind && (a.fN == b.fN && true))
abbrev Clo0 := Go.Abs.Clo Try.prog GOwner GOwner (fun z : GOwner => ([.agg (eGOwner z)] : List PV)) (fun r : GOwner => ([.p (.agg (eGOwner r))] : List Res))
set_option maxRecDepth 100000
set_option maxHeartbeats 4000000
def ref13_Find_L1 (a0 : List GClass) (a1 : List UInt8) : Nat → Int → Option (Ctl (Int) (Unit))
  | 0, _ => none
  | n + 1, x7 =>
    if (decide (x7 < (a0.length : Int))) = true then
      Option.bind (idx a0 x7) fun (y18 : GClass) =>
      if (y18.fName == a1) = true then
        some (.stop x7)
      else
        ref13_Find_L1 a0 a1 n (w_i64 (x7 + 1))
    else
      some (.next ())
def ref13_Find (a0 : List GClass) (a1 : List UInt8) : Option Int :=
  Option.bind (ref13_Find_L1 a0 a1 ((((a0.length : Int) : Int) - (0)).toNat + 1) 0) fun lr22 =>
  Ctl.elim lr22 (fun v => some v) fun _ =>
  some (-1)
def law26_great_L1 (a0 : List GClass) : Nat → Int → Option (Ctl (Bool) (Unit))
  | 0, _ => none
  | n + 1, x13 =>
    if (decide (x13 < (a0.length : Int))) = true then
      Option.bind (Option.bind (idx a0 x13) fun (y30 : GClass) =>
      if (decide ((y30.fAbove.length : Int) > 20)) = true then
        some true
      else
        Option.bind (idx a0 x13) fun (y33 : GClass) =>
        some (decide ((y33.fParams.length : Int) > 20)) : Option (Bool)) fun x35 =>
      if x35 = true then
        some (.stop true)
      else
        law26_great_L1 a0 n (w_i64 (x13 + 1))
    else
      some (.next ())
def law26_great (a0 : List GClass) : Option Bool :=
  Option.bind (law26_great_L1 a0 ((((a0.length : Int) : Int) - (0)).toNat + 1) 0) fun lr40 =>
  Ctl.elim lr40 (fun v => some v) fun _ =>
  some (decide ((a0.length : Int) > 30))
def ref05_Unique (a0 : GType) : Option Bool :=
  if (a0.fKind == 2) = true then
    some (a0.fOwn.a0.fKind == 6)
  else
    some false
def ref02_Letter (a0 : Int) : Option Bool :=
  if (decide (a0 ≥ 97)) = true then
    if (decide (a0 ≤ 122)) = true then
      some true
    else
      if (decide (a0 ≥ 65)) = true then
        some (decide (a0 ≤ 90))
      else
        some false
  else
    if (decide (a0 ≥ 65)) = true then
      some (decide (a0 ≤ 90))
    else
      some false
def ref02_Words  : Option (List (List UInt8)) :=
  some [[99, 108, 97, 115, 115], [101, 120, 116, 101, 110, 100, 115], [114, 101, 112], [112, 101, 101, 114], [119, 111, 114, 108, 100], [97, 110, 121], [117, 110, 105, 113, 117, 101], [112, 117, 114, 101], [118, 111, 105, 100], [105, 110, 116], [105, 102], [101, 108, 115, 101], [119, 104, 105, 108, 101], [114, 101, 116, 117, 114, 110], [110, 101, 119], [109, 111, 118, 101], [100, 101, 108, 101, 116, 101], [116, 104, 105, 115], [110, 117, 108, 108], [105, 110, 112, 117, 116], [110, 105, 108], [115, 97, 109, 101], [99, 97, 115, 116]]
def ref02_Find_L1 (a0 : List UInt8) (y3 : (List (List UInt8))) : Nat → Int → Option (Ctl (Int) (Unit))
  | 0, _ => none
  | n + 1, x11 =>
    if (decide (x11 < (y3.length : Int))) = true then
      Option.bind (idx y3 x11) fun (y22 : List UInt8) =>
      if (y22 == a0) = true then
        some (.stop (w_i64 (x11 + 1)))
      else
        ref02_Find_L1 a0 y3 n (w_i64 (x11 + 1))
    else
      some (.next ())
def ref02_Find (a0 : List UInt8) : Option Int :=
  Option.bind ref02_Words fun (y3 : (List (List UInt8))) =>
  Option.bind (ref02_Find_L1 a0 y3 ((((y3.length : Int) : Int) - (0)).toNat + 1) 0) fun lr26 =>
  Ctl.elim lr26 (fun v => some v) fun _ =>
  some 0
def ref02_Digit (a0 : Int) : Option Bool :=
  if (decide (a0 ≥ 48)) = true then
    some (decide (a0 ≤ 57))
  else
    some false
def ref02_Name_L1 (a0 : List UInt8) : Nat → Int → Option (Ctl (Bool) (Unit))
  | 0, _ => none
  | n + 1, x32 =>
    if (decide (x32 < (a0.length : Int))) = true then
      Option.bind (Option.bind (idx a0 x32) fun (y57 : UInt8) =>
      Option.bind (ref02_Letter (y57.toNat : Int)) fun (y59 : Bool) =>
      if (!y59) = true then
        Option.bind (idx a0 x32) fun (y62 : UInt8) =>
        Option.bind (ref02_Digit (y62.toNat : Int)) fun (y64 : Bool) =>
        some (!y64)
      else
        some false : Option (Bool)) fun x66 =>
      if x66 = true then
        some (.stop false)
      else
        ref02_Name_L1 a0 n (w_i64 (x32 + 1))
    else
      some (.next ())
def ref02_Name (a0 : List UInt8) : Option Bool :=
  Option.bind (if (decide ((a0.length : Int) < 1)) = true then
    some true
  else
    if (decide ((a0.length : Int) > 20)) = true then
      some true
    else
      Option.bind (idx a0 0) fun (y3 : UInt8) =>
      Option.bind (ref02_Letter (y3.toNat : Int)) fun (y5 : Bool) =>
      if (!y5) = true then
        some true
      else
        Option.bind (ref02_Find a0) fun (y8 : Int) =>
        some (decide (y8 > 0)) : Option (Bool)) fun x10 =>
  if x10 = true then
    some false
  else
    Option.bind (ref02_Name_L1 a0 ((((a0.length : Int) : Int) - (0)).toNat + 1) 0) fun lr71 =>
    Ctl.elim lr71 (fun v => some v) fun _ =>
    some true
def ref04_Right (a0 : GOwner) (a1 : Int) : Option Bool :=
  if (a0.fKind == 3) = true then
    if (decide (a0.fN ≥ 1)) = true then
      some (decide (a0.fN ≤ a1))
    else
      some false
  else
    if (a0.fKind == 7) = true then
      some (decide (a0.fN ≥ 0))
    else
      if (a0.fN == 0) = true then
        if (a0.fKind == 1) = true then
          some true
        else
          if (a0.fKind == 2) = true then
            some true
          else
            if (a0.fKind == 4) = true then
              some true
            else
              if (a0.fKind == 5) = true then
                some true
              else
                some (a0.fKind == 6)
      else
        some false
def ref05_Right_L1 (a0 : GType) (a1 : Int) : Nat → Int → Option (Ctl (Bool) (Unit))
  | 0, _ => none
  | n + 1, x32 =>
    if (decide (x32 < 4)) = true then
      Option.bind (idx (a0.fOwn).l x32) fun (y58 : GOwner) =>
      Option.bind (if (decide (x32 > a0.fN)) = true then
        if (!(bGOwner y58 ({ fKind := 0, fN := 0 } : GOwner))) = true then
          some true
        else
          if (decide (x32 ≤ a0.fN)) = true then
            Option.bind (ref04_Right y58 a1) fun (y63 : Bool) =>
            if (!y63) = true then
              some true
            else
              if (decide (x32 > 0)) = true then
                some (y58.fKind == 6)
              else
                some false
          else
            some false
      else
        if (decide (x32 ≤ a0.fN)) = true then
          Option.bind (ref04_Right y58 a1) fun (y68 : Bool) =>
          if (!y68) = true then
            some true
          else
            if (decide (x32 > 0)) = true then
              some (y58.fKind == 6)
            else
              some false
        else
          some false : Option (Bool)) fun x72 =>
      if x72 = true then
        some (.stop false)
      else
        ref05_Right_L1 a0 a1 n (w_i64 (x32 + 1))
    else
      some (.next ())
def ref05_Right (a0 : GType) (a1 : Int) : Option Bool :=
  Option.bind (if (a0.fKind == 0) = true then
    some true
  else
    some (a0.fKind == 1) : Option (Bool)) fun x2 =>
  if x2 = true then
    some (bGType a0 ({ fKind := a0.fKind, fClass := [], fN := 0, fOwn := (⟨zGOwner, zGOwner, zGOwner, zGOwner⟩ : A4 GOwner) } : GType))
  else
    Option.bind (if (a0.fKind != 2) = true then
      some true
    else
      Option.bind (ref02_Name a0.fClass) fun (y7 : Bool) =>
      if (!y7) = true then
        some true
      else
        if (decide (a0.fN < 0)) = true then
          some true
        else
          some (decide (a0.fN > 3)) : Option (Bool)) fun x11 =>
    if x11 = true then
      some false
    else
      Option.bind (ref05_Right_L1 a0 a1 (((4 : Int) - (0)).toNat + 1) 0) fun lr77 =>
      Ctl.elim lr77 (fun v => some v) fun _ =>
      some true
def ref05_count (a0 : GType) : Option Int :=
  some (if (if 3 < a0.fN then 3 else a0.fN) > 0 then (if 3 < a0.fN then 3 else a0.fN) else 0)
def ref05_Owners_L1 (a0 : GType) : Nat → (List GOwner) → Int → Option ((List GOwner))
  | 0, _, _ => none
  | n + 1, x14, x15 =>
    Option.bind (Option.bind (ref05_count a0) fun (y37 : Int) =>
    if (decide (x15 ≤ y37)) = true then
      some (a0.fKind == 2)
    else
      some false : Option (Bool)) fun x40 =>
    if x40 = true then
      Option.bind (idx (a0.fOwn).l x15) fun (y48 : GOwner) =>
      Option.bind (room ((x14.length : Int) + ([y48].length : Int)) 16) fun (u50 : Unit) =>
      ref05_Owners_L1 a0 n (x14 ++ [y48]) (w_i64 (x15 + 1))
    else
      some x14
def ref05_Owners (a0 : GType) : Option (List GOwner) :=
  Option.bind (ref05_Owners_L1 a0 6 [] 0) fun x54 =>
  some x54
def ref26_Hidden_L1 (y3 : (List GOwner)) : Nat → Int → Option (Ctl (Bool) (Unit))
  | 0, _ => none
  | n + 1, x11 =>
    if (decide (x11 < (y3.length : Int))) = true then
      Option.bind (idx y3 x11) fun (y22 : GOwner) =>
      if (y22.fKind == 8) = true then
        some (.stop true)
      else
        ref26_Hidden_L1 y3 n (w_i64 (x11 + 1))
    else
      some (.next ())
def ref26_Hidden (a0 : GType) : Option Bool :=
  Option.bind (ref05_Owners a0) fun (y3 : (List GOwner)) =>
  Option.bind (ref26_Hidden_L1 y3 ((((y3.length : Int) : Int) - (0)).toNat + 1) 0) fun lr26 =>
  Ctl.elim lr26 (fun v => some v) fun _ =>
  some false
def kind_own (a0 : GType) : Option (List GOwner) :=
  Option.bind (cutL (a0.fOwn).l 0 (w_i64 ((if (if 3 < a0.fN then 3 else a0.fN) > 0 then (if 3 < a0.fN then 3 else a0.fN) else 0) + 1))) fun (y1 : List GOwner) =>
  some y1
def slices_Clone_api_Owner (a0 : List GOwner) : Option (List GOwner) :=
  Option.bind (room ((([] : List GOwner).length : Int) + (a0.length : Int)) 16) fun _ =>
  some a0
def kind_Owners (a0 : GType) : Option (List GOwner) :=
  if (a0.fKind != 2) = true then
    some []
  else
    Option.bind (kind_own a0) fun (y2 : (List GOwner)) =>
    Option.bind (slices_Clone_api_Owner y2) fun (y4 : List GOwner) =>
    some y4
def slices_IndexFunc_api_Class_L1 (a0 : List GClass) (q1 : GClass → Option Bool) : Nat → Int → Option (Ctl (Int) (Unit))
  | 0, _ => none
  | n + 1, x11 =>
    if (decide (x11 < (a0.length : Int))) = true then
      Option.bind (idx a0 x11) fun (y28 : GClass) =>
      Option.bind (q1 y28) fun (y30 : Bool) =>
      if y30 = true then
        some (.stop x11)
      else
        slices_IndexFunc_api_Class_L1 a0 q1 n (w_i64 (x11 + 1))
    else
      some (.next ())
def slices_IndexFunc_api_Class (a0 : List GClass) (q1 : GClass → Option Bool) : Option Int :=
  Option.bind (slices_IndexFunc_api_Class_L1 a0 q1 ((((a0.length : Int) : Int) - (0)).toNat + 1) 0) fun lr34 =>
  Ctl.elim lr34 (fun v => some v) fun _ =>
  some (-1)
def table_Find_1 (a0 : GClass) (c0 : List UInt8) : Option Bool :=
  some (a0.fName == c0)
def table_Find (a0 : List GClass) (a1 : List UInt8) : Option Int :=
  Option.bind (slices_IndexFunc_api_Class a0 (fun (z1 : GClass) => table_Find_1 z1 a1)) fun (y2 : Int) =>
  some y2
def table_Arity (a0 : List GClass) (a1 : List UInt8) : Option Int :=
  Option.bind (table_Find a0 a1) fun (y3 : Int) =>
  if (decide (y3 < 0)) = true then
    some (-1)
  else
    Option.bind (idx a0 y3) fun (y6 : GClass) =>
    some (y6.fParams.length : Int)
def above_up (a0 : List GClass) (a1 : List UInt8) : Option ((List GClass) × (List UInt8)) :=
  some (a0, a1)
def above_up_1_L1 (c0 : List GClass) (sp : Nat) (rows : List (Int)) : Nat → Nat → (List UInt8) → Int → Option (Ctl (Nat) (Nat))
  | 0, _, _, _ => none
  | n + 1, x19, x20, x21 =>
    if (decide (x21 < (w_i64 ((c0.length : Int) + 1)))) = true then
      Option.bind (table_Find c0 x20) fun (y46 : Int) =>
      Option.bind (if (decide (y46 < 0)) = true then
        some (x19, true)
      else
        Option.bind (yck rows sp x19 y46) fun (u49 : Unit) =>
        some ((x19 + 1), (!(!(x19 == sp)))) : Option (Nat × Bool)) fun (x51, x52) =>
      if x52 = true then
        some (.stop x51)
      else
        Option.bind (idx c0 y46) fun (y58 : GClass) =>
        if (y58.fSuper == []) = true then
          some (.stop x51)
        else
          above_up_1_L1 c0 sp rows n x51 y58.fSuper (w_i64 (x21 + 1))
    else
      some (.next x19)
def above_up_1 (rows : List (Int)) (sp : Nat) (c0 : List GClass) (c1 : List UInt8) : Option Nat :=
  Option.bind (above_up_1_L1 c0 sp rows ((((w_i64 ((c0.length : Int) + 1)) : Int) - (0)).toNat + 1) 0 c1 0) fun lr65 =>
  Ctl.elim lr65 (fun v => some v) fun x64 =>
  some x64
def itR_up_n (p : List GClass) : Nat → List UInt8 → Option (List Int)
  | 0, _ => some []
  | n + 1, name => Option.bind (table_Find p name) fun i =>
    if i < 0 then some [] else
    Option.bind (idx p i) fun c =>
    if c.fSuper == [] then some [i] else
    Option.bind (itR_up_n p n c.fSuper) fun l => some (i :: l)
def itR_up (p : List GClass) (name : List UInt8) : Option (List Int) := if p.length < 9223372036854775806 then itR_up_n p (p.length + 1) name else none
def slices_Index_int_L1 (a0 : List Int) (a1 : Int) : Nat → Int → Option (Ctl (Int) (Unit))
  | 0, _ => none
  | n + 1, x7 =>
    if (decide (x7 < (a0.length : Int))) = true then
      Option.bind (idx a0 x7) fun (y18 : Int) =>
      if (a1 == y18) = true then
        some (.stop x7)
      else
        slices_Index_int_L1 a0 a1 n (w_i64 (x7 + 1))
    else
      some (.next ())
def slices_Index_int (a0 : List Int) (a1 : Int) : Option Int :=
  Option.bind (slices_Index_int_L1 a0 a1 ((((a0.length : Int) : Int) - (0)).toNat + 1) 0) fun lr22 =>
  Ctl.elim lr22 (fun v => some v) fun _ =>
  some (-1)
theorem slices_Index_int_ok {a0 : List Int} {a1 : Int} {r : Int} (hF : slices_Index_int a0 a1 = some r) : Abs.Fn Try.prog 84 [.vs 1 (List.map eI a0), .int .i64 a1] [.p (.int .i64 r)] := by
  unfold slices_Index_int at hF
  refine fn_of_body (n := 19) Try.func84 rfl rfl rfl ?_
  intro w O
  refine aw_seq ?_
  refine aw_region ?_
  refine ras ?_
  refine reg_nil ?_
  refine post_imp (s' := ⟨19, [(0, some (.pv (.vs 1 (List.map eI a0)))), (1, some (.pv (.int .i64 a1)))], [], 0, [], [], 0, []⟩) (imps [] ⟨by kernel_rfl, by kernel_rfl, trivial⟩ trivial) ?_
  refine post_next ?_
  iterate 2 (refine aw_seq ?_)
  refine aw_region ?_
  refine rmv ?_
  refine reg_cons (guard_no rfl) (op_len_vs (n := a0.length) rfl rfl (List.length_map ..) Try_slc_55 rfl rfl) ?_
  refine rmv ?_
  refine reg_nil ?_
  refine post_imp (s' := ⟨19, [(0, some (.pv (.vs 1 (List.map eI a0)))), (1, some (.pv (.int .i64 a1))), (7, some (.pv (.int .i64 (a0.length : Int)))), (8, some (.pv (.int .i64 0)))], [], 0, [], [], 0, []⟩) (imps [] ⟨by kernel_rfl, by kernel_rfl, by kernel_rfl, by kernel_rfl, trivial⟩ trivial) ?_
  refine post_next ?_
  obtain ⟨lr22, hF, hK23⟩ := bind_some hF
  refine aw_for ((((a0.length : Int) : Int) - (0)).toNat + 1) (fun s1 => ∃ q, lr22 = .next q ∧ s1 = ⟨19, [], [], 0, [], [], 0, []⟩) ?_ ?_
  · refine rnd_loop (α := Int) (fun q => ⟨19, [(0, some (.pv (.vs 1 (List.map eI a0)))), (1, some (.pv (.int .i64 a1))), (7, some (.pv (.int .i64 (a0.length : Int)))), (8, some (.pv (.int .i64 q)))], [], 0, [], [], 0, []⟩) (fun k q => slices_Index_int_L1 a0 a1 k q = some lr22) 0 (imps [] ⟨by kernel_rfl, by kernel_rfl, by kernel_rfl, by kernel_rfl, trivial⟩ trivial) hF (fun q h => by cases h) ?_
    clear hF
    rintro k x7 hF ih
    refine rnd_succ ?_
    refine aw_seq ?_
    refine aw_region ?_
    refine reg_cons (guard_no rfl) (op_int (k := .i64) (m := x7) (n := (a0.length : Int)) rfl rfl rfl rfl rfl rfl) ?_
    refine reg_nil ?_
    refine post_imp (s' := ⟨19, [(0, some (.pv (.vs 1 (List.map eI a0)))), (1, some (.pv (.int .i64 a1))), (7, some (.pv (.int .i64 (a0.length : Int)))), (8, some (.pv (.int .i64 x7))), (9, some (.pv (.bool (decide (x7 < (a0.length : Int))))))], [], 0, [], [], 0, []⟩) (imps [] ⟨by kernel_rfl, by kernel_rfl, by kernel_rfl, by kernel_rfl, by kernel_rfl, trivial⟩ trivial) ?_
    refine post_next ?_
    refine aw_seq ?_
    rcases ite_some hF with ⟨hb15, hF⟩ | ⟨hb15, hF⟩
    · refine aw_cond_t rfl hb15 ?_
      refine aw_skip ?_
      refine post_next ?_
      refine aw_seq ?_
      refine aw_block ?_
      refine aw_seq ?_
      refine aw_region ?_
      refine rmv ?_
      refine ras ?_
      refine reg_nil ?_
      refine post_imp (s' := ⟨19, [(0, some (.pv (.vs 1 (List.map eI a0)))), (1, some (.pv (.int .i64 a1))), (5, some (.pv (.int .i64 x7))), (7, some (.pv (.int .i64 (a0.length : Int)))), (8, some (.pv (.int .i64 x7)))], [], 0, [], [], 0, []⟩) (imps [] ⟨by kernel_rfl, by kernel_rfl, by kernel_rfl, by kernel_rfl, by kernel_rfl, trivial⟩ trivial) ?_
      refine post_next ?_
      refine aw_seq ?_
      refine aw_region ?_
      iterate 3 (refine rmv ?_)
      obtain ⟨y18, h19, hF⟩ := bind_some hF
      refine reg_cons (guard_no rfl) (op_index_vs (k := .i64) rfl rfl rfl (idx_map eI h19) Try_slc_55 rfl rfl) ?_
      refine reg_cons (guard_no rfl) (op_load_vp (p := .int .i64 y18) rfl rfl rfl Try_one_3 rfl rfl) ?_
      refine reg_cons (guard_no rfl) (op_int (k := .i64) (m := a1) (n := y18) rfl rfl rfl rfl rfl rfl) ?_
      refine reg_nil ?_
      refine post_imp (s' := ⟨19, [(0, some (.pv (.vs 1 (List.map eI a0)))), (1, some (.pv (.int .i64 a1))), (5, some (.pv (.int .i64 x7))), (7, some (.pv (.int .i64 (a0.length : Int)))), (8, some (.pv (.int .i64 x7))), (16, some (.pv (.bool (a1 == y18))))], [], 0, [], [], 0, []⟩) (imps [] ⟨by kernel_rfl, by kernel_rfl, by kernel_rfl, by kernel_rfl, by kernel_rfl, by kernel_rfl, trivial⟩ trivial) ?_
      refine post_next ?_
      rcases ite_some hF with ⟨hb20, hF⟩ | ⟨hb20, hF⟩
      · refine aw_cond_t rfl hb20 ?_
        refine aw_seq ?_
        refine aw_region ?_
        refine rmv ?_
        refine ras ?_
        refine reg_nil ?_
        refine post_imp (s' := ⟨19, [(4, some (.pv (.int .i64 x7)))], [], 0, [], [], 0, []⟩) (imps [] ⟨by kernel_rfl, trivial⟩ trivial) ?_
        refine post_next ?_
        refine aw_ret ?_
        refine post_block_ret ?_
        iterate 2 (refine post_then_ret ?_)
        refine post_lp_ret ?_
        obtain rfl := Option.some.inj hF
        have hF := elim_stop hK23
        refine post_then_ret ?_
        obtain rfl := Option.some.inj hF
        exact post_ret rfl rfl (.cons _ _ _ _ _ (.tmp _ _ rfl) (.p _) .nil) (.inl rfl)
      refine aw_cond_f rfl hb20 ?_
      refine aw_skip ?_
      refine post_block_normal ?_
      refine post_next ?_
      refine aw_region ?_
      refine reg_cons (guard_no rfl) (op_int (k := .i64) (m := x7) (n := 1) rfl rfl rfl rfl rfl rfl) ?_
      refine rmv ?_
      refine reg_nil ?_
      refine post_round ?_
      exact rnd_back (ih (w_i64 (x7 + 1)) hF) (imps [] ⟨by kernel_rfl, by kernel_rfl, by kernel_rfl, by kernel_rfl, trivial⟩ trivial)
    refine aw_cond_f rfl hb15 ?_
    refine aw_exit ?_
    iterate 2 (refine post_then_exit ?_)
    obtain rfl := Option.some.inj hF
    exact post_lp_break _ ⟨_, rfl, rfl⟩ (imps [] trivial trivial)
  rintro _ ⟨⟨⟩, rfl, rfl⟩
  have hF := elim_next hK23
  clear hK23
  refine post_next ?_
  refine aw_seq ?_
  refine aw_region ?_
  refine ras ?_
  refine reg_nil ?_
  refine post_imp (s' := ⟨19, [(4, some (.pv (.int .i64 (-1))))], [], 0, [], [], 0, []⟩) (imps [] ⟨by kernel_rfl, trivial⟩ trivial) ?_
  refine post_next ?_
  refine aw_ret ?_
  obtain rfl := Option.some.inj hF
  exact post_ret rfl rfl (.cons _ _ _ _ _ (.tmp _ _ rfl) (.p _) .nil) (.inl rfl)
def slices_Contains_int (a0 : List Int) (a1 : Int) : Option Bool :=
  Option.bind (slices_Index_int a0 a1) fun (y1 : Int) =>
  some (decide (y1 ≥ 0))
theorem slices_Contains_int_ok {a0 : List Int} {a1 : Int} {r : Bool} (hF : slices_Contains_int a0 a1 = some r) : Abs.Fn Try.prog 66 [.vs 1 (List.map eI a0), .int .i64 a1] [.p (.bool r)] := by
  unfold slices_Contains_int at hF
  refine fn_of_body (n := 9) Try.func66 rfl rfl rfl ?_
  intro w O
  refine aw_seq ?_
  refine aw_region ?_
  refine ras ?_
  refine reg_nil ?_
  refine post_imp (s' := ⟨9, [(0, some (.pv (.vs 1 (List.map eI a0)))), (1, some (.pv (.int .i64 a1)))], [], 0, [], [], 0, []⟩) (imps [] ⟨by kernel_rfl, by kernel_rfl, trivial⟩ trivial) ?_
  refine post_next ?_
  refine aw_seq ?_
  refine aw_region ?_
  iterate 2 (refine rmv ?_)
  obtain ⟨y1, h2, hF⟩ := bind_some hF
  refine reg_cons (guard_no rfl) (op_call 0 rfl (caps := []) (args := [.vs 1 (List.map eI a0), .int .i64 a1]) (rs := [.p (.int .i64 y1)]) rfl rfl rfl Try_cal_84 (slices_Index_int_ok h2) rfl rfl rfl) ?_
  refine reg_cons (guard_no rfl) (op_int (k := .i64) (m := y1) (n := 0) rfl rfl rfl rfl rfl rfl) ?_
  refine ras ?_
  refine reg_nil ?_
  refine post_imp (s' := ⟨9, [(4, some (.pv (.bool (decide (y1 ≥ 0)))))], [], 0, [], [], 0, []⟩) (imps [] ⟨by kernel_rfl, trivial⟩ trivial) ?_
  refine post_next ?_
  refine aw_ret ?_
  obtain rfl := Option.some.inj hF
  exact post_ret rfl rfl (.cons _ _ _ _ _ (.tmp _ _ rfl) (.p _) .nil) (.inl rfl)
def above_Chain_B1  : Int → (List Int) → Option (Ctl (List Int) (List Int))
  | x23, x13 =>
    Option.bind (slices_Contains_int x13 x23) fun (y26 : Bool) =>
    if y26 = true then
      some (.stop x13)
    else
      Option.bind (room ((x13.length : Int) + ([x23].length : Int)) 8) fun (u29 : Unit) =>
      some (.next (x13 ++ [x23]))
def above_Chain (a0 : List GClass) (a1 : List UInt8) : Option (List Int) :=
  Option.bind (above_up a0 a1) fun (y3 : (List GClass) × (List UInt8)) =>
  Option.bind (itR_up y3.1 y3.2) fun (rows33 : List (Int)) =>
  Option.bind (runs above_Chain_B1 rows33 []) fun (lr35 : Ctl (List Int) (List Int)) =>
  Ctl.elim lr35 (fun x32 =>
    some x32) (fun x13 =>
    some x13)
def raise_raise_api_Owner__L2 (q4 : GOwner → (List GOwner) → Option GOwner) (x96 : List GOwner) (y187 : GClass) : Nat → (List GOwner) → Int → Option ((List GOwner))
  | 0, _, _ => none
  | n + 1, x216, x217 =>
    if (decide (x217 < (y187.fAbove.length : Int))) = true then
      Option.bind (idx y187.fAbove x217) fun (y236 : GOwner) =>
      Option.bind (q4 y236 x96) fun (y242 : GOwner) =>
      Option.bind (room ((x216.length : Int) + ([y242].length : Int)) 16) fun (u244 : Unit) =>
      raise_raise_api_Owner__L2 q4 x96 y187 n (x216 ++ [y242]) (w_i64 (x217 + 1))
    else
      some x216
def raise_raise_api_Owner__L1 (a0 : List GClass) (q4 : GOwner → (List GOwner) → Option GOwner) (y3 : Int) (y19 : (List Int)) : Nat → (List GOwner) → Int → Option (Ctl ((List GOwner) × Bool) (Unit))
  | 0, _, _ => none
  | n + 1, x96, x97 =>
    if (decide (x97 < (y19.length : Int))) = true then
      Option.bind (idx y19 x97) fun (y178 : Int) =>
      if (y178 == y3) = true then
        some (.stop (x96, true))
      else
        Option.bind (cutL x96 0 1) fun (y183 : List GOwner) =>
        Option.bind (idx a0 y178) fun (y187 : GClass) =>
        Option.bind (if (decide (0 < (y187.fAbove.length : Int))) = true then
          Option.bind (idx y187.fAbove 0) fun (y192 : GOwner) =>
          Option.bind (q4 y192 x96) fun (y198 : GOwner) =>
          Option.bind (room ((y183.length : Int) + ([y198].length : Int)) 16) fun (u200 : Unit) =>
          raise_raise_api_Owner__L2 q4 x96 y187 ((((y187.fAbove.length : Int) : Int) - ((w_i64 (0 + 1)))).toNat + 1) (y183 ++ [y198]) (w_i64 (0 + 1))
        else
          some y183 : Option ((List GOwner))) fun x248 =>
        raise_raise_api_Owner__L1 a0 q4 y3 y19 n x248 (w_i64 (x97 + 1))
    else
      some (.next ())
def raise_raise_api_Owner_ (a0 : List GClass) (a1 : List UInt8) (a2 : List GOwner) (a3 : List UInt8) (q4 : GOwner → (List GOwner) → Option GOwner) : Option ((List GOwner) × Bool) :=
  Option.bind (table_Find a0 a3) fun (y3 : Int) =>
  Option.bind (if (decide (y3 < 0)) = true then
    some true
  else
    Option.bind (table_Arity a0 a1) fun (y6 : Int) =>
    if ((a2.length : Int) != (w_i64 (y6 + 1))) = true then
      some true
    else
      some ((a2.length : Int) == 0) : Option (Bool)) fun x9 =>
  if x9 = true then
    some ([], false)
  else
    Option.bind (slices_Clone_api_Owner a2) fun (y15 : List GOwner) =>
    Option.bind (above_Chain a0 a1) fun (y19 : (List Int)) =>
    Option.bind (raise_raise_api_Owner__L1 a0 q4 y3 y19 ((((y19.length : Int) : Int) - (0)).toNat + 1) y15 0) fun lr252 =>
    Ctl.elim lr252 (fun v => some v) fun _ =>
    some ([], false)
def owner_Put (a0 : GOwner) (a1 : List GOwner) : Option GOwner :=
  Ctl.go (if (a0.fKind == 3) = true then
    .next a0.fN
  else
    if (a0.fKind == 2) = true then
      .next 0
    else
      .stop (some a0) : Ctl (Option GOwner) (Int)) fun x3 =>
  Option.bind (if (decide (x3 < 0)) = true then
    some true
  else
    some (decide (x3 ≥ (a1.length : Int))) : Option (Bool)) fun x5 =>
  if x5 = true then
    some ({ fKind := 8, fN := 0 } : GOwner)
  else
    Option.bind (idx a1 x3) fun (y9 : GOwner) =>
    some y9
theorem owner_Put_ok {a0 : GOwner} {a1 : List GOwner} {r : GOwner} (hF : owner_Put a0 a1 = some r) : Abs.Fn Try.prog 62 [.agg (eGOwner a0), .vs 2 (List.map eGOwner a1)] [.p (.agg (eGOwner r))] := by
  unfold owner_Put at hF
  refine fn_of_body (n := 28) Try.func62 rfl rfl rfl ?_
  intro w O
  refine aw_seq ?_
  refine aw_region ?_
  refine reg_cons (guard_no rfl) (op_box 0 rfl rfl rfl rfl rfl rfl) ?_
  refine reg_cons (guard_no rfl) (op_alloc 1 rfl (ps := (eGOwner zGOwner)) rfl Try_zer_24 (by exact ⟨rfl, rfl, trivial⟩) rfl rfl) ?_
  refine reg_nil ?_
  refine post_imp (s' := ⟨28, [(1, some (.pv (.vs 2 (List.map eGOwner a1)))), (2, some (.lp 0 0)), (4, some (.lp 1 0))], [(0, some (.box 24 (bxv (eGOwner a0)))), (1, some (.box 24 (bxv (eGOwner zGOwner))))], 2, [], [], 0, []⟩) (imps [0, 1] ⟨by kernel_rfl, by kernel_rfl, by kernel_rfl, trivial⟩ ⟨by kernel_rfl, by kernel_rfl, trivial⟩) ?_
  refine post_next ?_
  refine aw_seq ?_
  refine aw_region ?_
  refine ras ?_
  refine reg_nil ?_
  refine post_imp (s' := ⟨28, [(1, some (.pv (.vs 2 (List.map eGOwner a1)))), (2, some (.lp 0 0)), (4, some (.lp 1 0)), (5, some (.pv (.int .i64 0)))], [(0, some (.box 24 (bxv (eGOwner a0)))), (1, some (.box 24 (bxv (eGOwner zGOwner))))], 2, [], [], 0, []⟩) (imps [0, 1] ⟨by kernel_rfl, by kernel_rfl, by kernel_rfl, by kernel_rfl, trivial⟩ ⟨by kernel_rfl, by kernel_rfl, trivial⟩) ?_
  refine post_next ?_
  iterate 2 (refine aw_seq ?_)
  refine aw_region ?_
  refine reg_cons (guard_no rfl) (op_field_lp rfl rfl Try_fld_24_0 rfl rfl) ?_
  refine reg_cons (guard_no rfl) (op_load_lp (v := .pv (.int .i64 a0.fKind)) rfl rfl rfl rfl Try_one_3 rfl rfl) ?_
  refine reg_nil ?_
  refine post_imp (s' := ⟨28, [(1, some (.pv (.vs 2 (List.map eGOwner a1)))), (2, some (.lp 0 0)), (4, some (.lp 1 0)), (5, some (.pv (.int .i64 0))), (7, some (.pv (.int .i64 a0.fKind)))], [(0, some (.box 24 (bxv (eGOwner a0)))), (1, some (.box 24 (bxv (eGOwner zGOwner))))], 2, [], [], 0, []⟩) (imps [0, 1] ⟨by kernel_rfl, by kernel_rfl, by kernel_rfl, by kernel_rfl, by kernel_rfl, trivial⟩ ⟨by kernel_rfl, by kernel_rfl, trivial⟩) ?_
  refine post_next ?_
  refine aw_block ?_
  refine aw_seq ?_
  refine aw_join hF (fun q => ⟨28, [(1, some (.pv (.vs 2 (List.map eGOwner a1)))), (4, some (.lp 0 0)), (5, some (.pv (.int .i64 q)))], [(0, some (.box 24 (bxv (eGOwner zGOwner))))], 1, [], [], 0, []⟩) ?_ ?_
  · refine aw_block ?_
    refine aw_seq ?_
    refine aw_block ?_
    iterate 3 (refine aw_seq ?_)
    refine aw_region ?_
    refine reg_cons (guard_no rfl) (op_int (k := .i64) (m := a0.fKind) (n := 3) rfl rfl rfl rfl rfl rfl) ?_
    refine ras ?_
    refine reg_nil ?_
    refine post_imp (s' := ⟨28, [(1, some (.pv (.vs 2 (List.map eGOwner a1)))), (2, some (.lp 0 0)), (4, some (.lp 1 0)), (5, some (.pv (.int .i64 0))), (7, some (.pv (.int .i64 a0.fKind))), (8, some (.pv (.bool (a0.fKind == 3))))], [(0, some (.box 24 (bxv (eGOwner a0)))), (1, some (.box 24 (bxv (eGOwner zGOwner))))], 2, [], [], 0, []⟩) (imps [0, 1] ⟨by kernel_rfl, by kernel_rfl, by kernel_rfl, by kernel_rfl, by kernel_rfl, by kernel_rfl, trivial⟩ ⟨by kernel_rfl, by kernel_rfl, trivial⟩) ?_
    refine post_next ?_
    rcases go_ite hF with ⟨hb1, hF⟩ | ⟨hb1, hF⟩
    · refine aw_cond_t rfl hb1 ?_
      refine aw_exit ?_
      iterate 2 (refine post_then_exit ?_)
      refine post_block_exit ?_
      refine post_next ?_
      refine aw_region ?_
      refine reg_cons (guard_no rfl) (op_field_lp rfl rfl Try_fld_24_1 rfl rfl) ?_
      refine reg_cons (guard_no rfl) (op_load_lp (v := .pv (.int .i64 a0.fN)) rfl rfl rfl rfl Try_one_3 rfl rfl) ?_
      refine ras ?_
      refine reg_nil ?_
      refine post_imp (s' := ⟨28, [(1, some (.pv (.vs 2 (List.map eGOwner a1)))), (4, some (.lp 0 0)), (5, some (.pv (.int .i64 a0.fN)))], [(0, some (.box 24 (bxv (eGOwner zGOwner))))], 1, [], [], 0, []⟩) (imps [1] ⟨by kernel_rfl, by kernel_rfl, by kernel_rfl, trivial⟩ ⟨by kernel_rfl, trivial⟩) ?_
      refine post_block_normal ?_
      exact post_cut _ ⟨a0.fN, rfl, hF⟩ (imps [0] ⟨by kernel_rfl, by kernel_rfl, by kernel_rfl, trivial⟩ ⟨by kernel_rfl, trivial⟩)
    refine aw_cond_f rfl hb1 ?_
    refine aw_skip ?_
    refine post_next ?_
    refine aw_seq ?_
    refine aw_region ?_
    refine reg_cons (guard_no rfl) (op_int (k := .i64) (m := a0.fKind) (n := 2) rfl rfl rfl rfl rfl rfl) ?_
    refine ras ?_
    refine reg_nil ?_
    refine post_imp (s' := ⟨28, [(1, some (.pv (.vs 2 (List.map eGOwner a1)))), (2, some (.lp 0 0)), (4, some (.lp 1 0)), (5, some (.pv (.int .i64 0))), (10, some (.pv (.bool (a0.fKind == 2))))], [(0, some (.box 24 (bxv (eGOwner a0)))), (1, some (.box 24 (bxv (eGOwner zGOwner))))], 2, [], [], 0, []⟩) (imps [0, 1] ⟨by kernel_rfl, by kernel_rfl, by kernel_rfl, by kernel_rfl, by kernel_rfl, trivial⟩ ⟨by kernel_rfl, by kernel_rfl, trivial⟩) ?_
    refine post_next ?_
    rcases go_ite hF with ⟨hb2, hF⟩ | ⟨hb2, hF⟩
    · refine aw_cond_t rfl hb2 ?_
      refine aw_exit ?_
      refine post_then_exit ?_
      refine post_block_other rfl ?_
      refine post_then_exit ?_
      refine post_block_exit ?_
      exact post_cut _ ⟨0, rfl, hF⟩ (imps [1] ⟨by kernel_rfl, by kernel_rfl, by kernel_rfl, trivial⟩ ⟨by kernel_rfl, trivial⟩)
    refine aw_cond_f rfl hb2 ?_
    refine aw_skip ?_
    refine post_next ?_
    refine aw_exit ?_
    refine post_block_other rfl ?_
    refine post_then_exit ?_
    refine post_block_other rfl ?_
    refine post_cut_exit ?_
    replace hF := go_stop hF
    refine post_then_exit ?_
    refine post_block_exit ?_
    refine post_next ?_
    refine aw_seq ?_
    refine aw_region ?_
    refine reg_cons (guard_no rfl) (op_load_lp_agg (ps := eGOwner a0) rfl rfl rfl rfl rfl rfl Try_agg_24 rfl rfl) ?_
    refine reg_cons (guard_no rfl) (op_store_lp (n := 2) rfl rfl rfl rfl rfl (or_agg Try_agg_24) (by rw [Try_non_24]; rfl) rfl rfl rfl) ?_
    refine reg_nil ?_
    refine post_imp (s' := ⟨28, [(4, some (.lp 0 0))], [(0, some (.box 24 (bxv (eGOwner a0))))], 1, [], [], 0, []⟩) (imps [1] ⟨by kernel_rfl, trivial⟩ ⟨by kernel_rfl, trivial⟩) ?_
    refine post_next ?_
    refine aw_ret ?_
    obtain rfl := Option.some.inj hF
    exact post_ret rfl rfl (.cons _ _ _ _ _ (.agg _ _ _ _ _ 2 _ _ rfl rfl Try_agg_24 rfl rfl rfl) (.p _) .nil) (.inl rfl)
  rintro x3 hF
  refine post_next ?_
  iterate 3 (refine aw_seq ?_)
  obtain ⟨x5, hF, hK7⟩ := bind_some hF
  refine aw_cut (fun s1 => s1 = ⟨28, [(1, some (.pv (.vs 2 (List.map eGOwner a1)))), (4, some (.lp 0 0)), (5, some (.pv (.int .i64 x3))), (21, some (.pv (.bool x5)))], [(0, some (.box 24 (bxv (eGOwner zGOwner))))], 1, [], [], 0, []⟩) ?_ ?_
  · refine aw_region ?_
    refine rmv ?_
    refine reg_cons (guard_no rfl) (op_int (k := .i64) (m := x3) (n := 0) rfl rfl rfl rfl rfl rfl) ?_
    refine rmv ?_
    rcases ite_some hF with ⟨hb4, hF⟩ | ⟨hb4, hF⟩
    · refine rgo_t hb4 ?_
      iterate 3 (refine rgo_t hb4 ?_)
      refine rpt hb4 ?_
      refine reg_nil ?_
      cases hF
      exact post_cut _ rfl (imps [0] ⟨by kernel_rfl, by kernel_rfl, by kernel_rfl, by kernel_rfl, trivial⟩ ⟨by kernel_rfl, trivial⟩)
    iterate 2 (refine reg_cons (guard_on rfl rfl rfl rfl hb4) (op_move rfl rfl rfl rfl) ?_)
    refine reg_cons (guard_on rfl rfl rfl rfl hb4) (op_len_vs (n := a1.length) rfl rfl (List.length_map ..) Try_slc_39 rfl rfl) ?_
    refine reg_cons (guard_on rfl rfl rfl rfl hb4) (op_int (k := .i64) (m := x3) (n := (a1.length : Int)) rfl rfl rfl rfl rfl rfl) ?_
    refine rpf hb4 ?_
    refine reg_nil ?_
    cases hF
    exact post_cut _ rfl (imps [0] ⟨by kernel_rfl, by kernel_rfl, by kernel_rfl, by kernel_rfl, trivial⟩ ⟨by kernel_rfl, trivial⟩)
  rintro _ rfl
  have hF := hK7
  clear hK7
  refine post_next ?_
  rcases ite_some hF with ⟨hb8, hF⟩ | ⟨hb8, hF⟩
  · refine aw_cond_t rfl hb8 ?_
    refine aw_seq ?_
    refine aw_region ?_
    refine reg_cons (guard_no rfl) (op_build (zs := (eGOwner zGOwner)) (r := eGOwner ({ fKind := 8, fN := 0 } : GOwner)) rfl Try_zer_24 (by exact ⟨rfl, rfl, trivial⟩) Try_plc_24 rfl rfl rfl rfl) ?_
    refine reg_cons (guard_no rfl) (op_store_lp (n := 2) rfl rfl rfl rfl rfl (or_agg Try_agg_24) (by rw [Try_non_24]; rfl) rfl rfl rfl) ?_
    refine reg_nil ?_
    refine post_imp (s' := ⟨28, [(4, some (.lp 0 0))], [(0, some (.box 24 (bxv (eGOwner ({ fKind := 8, fN := 0 } : GOwner)))))], 1, [], [], 0, []⟩) (imps [0] ⟨by kernel_rfl, trivial⟩ ⟨by kernel_rfl, trivial⟩) ?_
    refine post_next ?_
    refine aw_ret ?_
    iterate 2 (refine post_then_ret ?_)
    refine post_block_ret ?_
    refine post_then_ret ?_
    obtain rfl := Option.some.inj hF
    exact post_ret rfl rfl (.cons _ _ _ _ _ (.agg _ _ _ _ _ 2 _ _ rfl rfl Try_agg_24 rfl rfl rfl) (.p _) .nil) (.inl rfl)
  refine aw_cond_f rfl hb8 ?_
  refine aw_skip ?_
  refine post_next ?_
  refine aw_seq ?_
  refine aw_region ?_
  iterate 2 (refine rmv ?_)
  obtain ⟨y9, h10, hF⟩ := bind_some hF
  refine reg_cons (guard_no rfl) (op_index_vs (k := .i64) rfl rfl rfl (idx_map eGOwner h10) Try_slc_39 rfl rfl) ?_
  refine reg_cons (guard_no rfl) (op_load_vp_agg (ps := eGOwner y9) rfl rfl rfl rfl Try_agg_24 rfl rfl) ?_
  refine reg_cons (guard_no rfl) (op_store_lp (n := 2) rfl rfl rfl rfl rfl (or_agg Try_agg_24) (by rw [Try_non_24]; rfl) rfl rfl rfl) ?_
  refine reg_nil ?_
  refine post_imp (s' := ⟨28, [(4, some (.lp 0 0))], [(0, some (.box 24 (bxv (eGOwner y9))))], 1, [], [], 0, []⟩) (imps [0] ⟨by kernel_rfl, trivial⟩ ⟨by kernel_rfl, trivial⟩) ?_
  refine post_next ?_
  refine aw_ret ?_
  refine post_then_ret ?_
  refine post_block_ret ?_
  refine post_then_ret ?_
  obtain rfl := Option.some.inj hF
  exact post_ret rfl rfl (.cons _ _ _ _ _ (.agg _ _ _ _ _ 2 _ _ rfl rfl Try_agg_24 rfl rfl rfl) (.p _) .nil) (.inl rfl)
def raise_Raise (a0 : List GClass) (a1 : List UInt8) (a2 : List GOwner) (a3 : List UInt8) : Option ((List GOwner) × Bool) :=
  Option.bind (raise_raise_api_Owner_ a0 a1 a2 a3 (fun (z1 : GOwner) (z2 : List GOwner) => owner_Put z1 z2)) fun (y3 : (List GOwner) × Bool) =>
  some (y3.1, y3.2)
def kind_Unique (a0 : GType) : Option Bool :=
  if (a0.fKind == 2) = true then
    some (a0.fOwn.a0.fKind == 6)
  else
    some false
def adapt_through (a0 : List GOwner) (a1 : List Int) (a2 : List Int) : Option ((List Int) × (List GOwner) × (List Int)) :=
  some (a1, a0, a2)
def adapt_dark (a0 : GOwner) : Option GOwner :=
  some ({ fKind := 8, fN := 0 } : GOwner)
theorem adapt_dark_ok {a0 : GOwner} {r : GOwner} (hF : adapt_dark a0 = some r) : Abs.Fn Try.prog 45 [.agg (eGOwner a0)] [.p (.agg (eGOwner r))] := by
  unfold adapt_dark at hF
  refine fn_of_body (n := 4) Try.func45 rfl rfl rfl ?_
  intro w O
  refine aw_seq ?_
  refine aw_region ?_
  refine reg_cons (guard_no rfl) (op_box 0 rfl rfl rfl rfl rfl rfl) ?_
  refine reg_cons (guard_no rfl) (op_alloc 1 rfl (ps := (eGOwner zGOwner)) rfl Try_zer_24 (by exact ⟨rfl, rfl, trivial⟩) rfl rfl) ?_
  refine reg_nil ?_
  refine post_imp (s' := ⟨4, [(2, some (.lp 0 0))], [(0, some (.box 24 (bxv (eGOwner zGOwner))))], 1, [], [], 0, []⟩) (imps [1] ⟨by kernel_rfl, trivial⟩ ⟨by kernel_rfl, trivial⟩) ?_
  refine post_next ?_
  refine aw_seq ?_
  refine aw_region ?_
  refine reg_cons (guard_no rfl) (op_build (zs := (eGOwner zGOwner)) (r := eGOwner ({ fKind := 8, fN := 0 } : GOwner)) rfl Try_zer_24 (by exact ⟨rfl, rfl, trivial⟩) Try_plc_24 rfl rfl rfl rfl) ?_
  refine reg_cons (guard_no rfl) (op_store_lp (n := 2) rfl rfl rfl rfl rfl (or_agg Try_agg_24) (by rw [Try_non_24]; rfl) rfl rfl rfl) ?_
  refine reg_nil ?_
  refine post_imp (s' := ⟨4, [(2, some (.lp 0 0))], [(0, some (.box 24 (bxv (eGOwner ({ fKind := 8, fN := 0 } : GOwner)))))], 1, [], [], 0, []⟩) (imps [0] ⟨by kernel_rfl, trivial⟩ ⟨by kernel_rfl, trivial⟩) ?_
  refine post_next ?_
  refine aw_ret ?_
  obtain rfl := Option.some.inj hF
  exact post_ret rfl rfl (.cons _ _ _ _ _ (.agg _ _ _ _ _ 2 _ _ rfl rfl Try_agg_24 rfl rfl rfl) (.p _) .nil) (.inl rfl)
def adapt_made_1 (a0 : GOwner) (c0 : List GOwner) : Option GOwner :=
  Option.bind (owner_Put a0 c0) fun (y1 : GOwner) =>
  some y1
theorem adapt_made_1_ok {a0 : GOwner} {c0 : List GOwner} {r : GOwner} (hF : adapt_made_1 a0 c0 = some r) : Abs.Fn Try.prog 70 [.agg (eGOwner a0), .vp ((eL 2 eGOwner) c0)] [.p (.agg (eGOwner r))] := by
  unfold adapt_made_1 at hF
  refine fn_of_body (n := 7) Try.func70 rfl rfl rfl ?_
  intro w O
  refine aw_seq ?_
  refine aw_region ?_
  refine reg_cons (guard_no rfl) (op_box 0 rfl rfl rfl rfl rfl rfl) ?_
  refine reg_cons (guard_no rfl) (op_alloc 1 rfl (ps := (eGOwner zGOwner)) rfl Try_zer_24 (by exact ⟨rfl, rfl, trivial⟩) rfl rfl) ?_
  refine reg_nil ?_
  refine post_imp (s' := ⟨7, [(1, some (.pv (.vp ((eL 2 eGOwner) c0)))), (2, some (.lp 0 0)), (3, some (.lp 1 0))], [(0, some (.box 24 (bxv (eGOwner a0)))), (1, some (.box 24 (bxv (eGOwner zGOwner))))], 2, [], [], 0, []⟩) (imps [0, 1] ⟨by kernel_rfl, by kernel_rfl, by kernel_rfl, trivial⟩ ⟨by kernel_rfl, by kernel_rfl, trivial⟩) ?_
  refine post_next ?_
  refine aw_seq ?_
  refine aw_region ?_
  refine reg_cons (guard_no rfl) (op_load_lp_agg (ps := eGOwner a0) rfl rfl rfl rfl rfl rfl Try_agg_24 rfl rfl) ?_
  refine reg_cons (guard_no rfl) (op_load_vp (p := .vs 2 (List.map eGOwner c0)) rfl rfl rfl Try_one_39 rfl rfl) ?_
  obtain ⟨y1, h2, hF⟩ := bind_some hF
  refine reg_cons (guard_no rfl) (op_call 2 rfl (caps := []) (args := [.agg (eGOwner a0), .vs 2 (List.map eGOwner c0)]) (rs := [.p (.agg (eGOwner y1))]) rfl rfl rfl Try_cal_62 (owner_Put_ok h2) rfl rfl rfl) ?_
  refine reg_cons (guard_no rfl) (op_store_lp (n := 2) rfl rfl rfl rfl rfl (or_agg Try_agg_24) (by rw [Try_non_24]; rfl) rfl rfl rfl) ?_
  refine reg_nil ?_
  refine post_imp (s' := ⟨7, [(3, some (.lp 0 0))], [(0, some (.box 24 (bxv (eGOwner y1))))], 1, [], [], 0, []⟩) (imps [1] ⟨by kernel_rfl, trivial⟩ ⟨by kernel_rfl, trivial⟩) ?_
  refine post_next ?_
  refine aw_ret ?_
  obtain rfl := Option.some.inj hF
  exact post_ret rfl rfl (.cons _ _ _ _ _ (.agg _ _ _ _ _ 2 _ _ rfl rfl Try_agg_24 rfl rfl rfl) (.p _) .nil) (.inl rfl)
def adapt_through_1 (a0 : GOwner) (c0 : List Int) (c1 : List GOwner) (c2 : List Int) : Option GOwner :=
  Option.bind (slices_Contains_int c0 a0.fKind) fun (y3 : Bool) =>
  if y3 = true then
    Option.bind (owner_Put a0 c1) fun (y6 : GOwner) =>
    some y6
  else
    Option.bind (slices_Contains_int c2 a0.fKind) fun (y10 : Bool) =>
    if y10 = true then
      some a0
    else
      Option.bind (adapt_dark a0) fun (y13 : GOwner) =>
      some y13
theorem adapt_through_1_ok {a0 : GOwner} {c0 : List Int} {c1 : List GOwner} {c2 : List Int} {r : GOwner} (hF : adapt_through_1 a0 c0 c1 c2 = some r) : Abs.Fn Try.prog 86 [.agg (eGOwner a0), .vp ((eL 1 eI) c0), .vp ((eL 2 eGOwner) c1), .vp ((eL 1 eI) c2)] [.p (.agg (eGOwner r))] := by
  unfold adapt_through_1 at hF
  refine fn_of_body (n := 22) Try.func86 rfl rfl rfl ?_
  intro w O
  refine aw_seq ?_
  refine aw_region ?_
  refine reg_cons (guard_no rfl) (op_box 0 rfl rfl rfl rfl rfl rfl) ?_
  refine reg_cons (guard_no rfl) (op_alloc 1 rfl (ps := (eGOwner zGOwner)) rfl Try_zer_24 (by exact ⟨rfl, rfl, trivial⟩) rfl rfl) ?_
  refine reg_nil ?_
  refine post_imp (s' := ⟨22, [(1, some (.pv (.vp ((eL 1 eI) c0)))), (2, some (.pv (.vp ((eL 2 eGOwner) c1)))), (3, some (.pv (.vp ((eL 1 eI) c2)))), (4, some (.lp 0 0)), (5, some (.lp 1 0))], [(0, some (.box 24 (bxv (eGOwner a0)))), (1, some (.box 24 (bxv (eGOwner zGOwner))))], 2, [], [], 0, []⟩) (imps [0, 1] ⟨by kernel_rfl, by kernel_rfl, by kernel_rfl, by kernel_rfl, by kernel_rfl, trivial⟩ ⟨by kernel_rfl, by kernel_rfl, trivial⟩) ?_
  refine post_next ?_
  refine aw_seq ?_
  refine aw_block ?_
  refine aw_seq ?_
  refine aw_region ?_
  refine reg_cons (guard_no rfl) (op_load_vp (p := .vs 1 (List.map eI c0)) rfl rfl rfl Try_one_55 rfl rfl) ?_
  refine reg_cons (guard_no rfl) (op_field_lp rfl rfl Try_fld_24_0 rfl rfl) ?_
  refine reg_cons (guard_no rfl) (op_load_lp (v := .pv (.int .i64 a0.fKind)) rfl rfl rfl rfl Try_one_3 rfl rfl) ?_
  obtain ⟨y3, h4, hF⟩ := bind_some hF
  refine reg_cons (guard_no rfl) (op_call 2 rfl (caps := []) (args := [.vs 1 (List.map eI c0), .int .i64 a0.fKind]) (rs := [.p (.bool y3)]) rfl rfl rfl Try_cal_66 (slices_Contains_int_ok h4) rfl rfl rfl) ?_
  refine ras ?_
  refine reg_nil ?_
  refine post_imp (s' := ⟨22, [(2, some (.pv (.vp ((eL 2 eGOwner) c1)))), (3, some (.pv (.vp ((eL 1 eI) c2)))), (4, some (.lp 0 0)), (5, some (.lp 1 0)), (6, some (.pv (.bool y3)))], [(0, some (.box 24 (bxv (eGOwner a0)))), (1, some (.box 24 (bxv (eGOwner zGOwner))))], 2, [], [], 0, []⟩) (imps [0, 1] ⟨by kernel_rfl, by kernel_rfl, by kernel_rfl, by kernel_rfl, by kernel_rfl, trivial⟩ ⟨by kernel_rfl, by kernel_rfl, trivial⟩) ?_
  refine post_next ?_
  rcases ite_some hF with ⟨hb5, hF⟩ | ⟨hb5, hF⟩
  · refine aw_cond_t rfl hb5 ?_
    refine aw_seq ?_
    refine aw_region ?_
    refine reg_cons (guard_no rfl) (op_load_lp_agg (ps := eGOwner a0) rfl rfl rfl rfl rfl rfl Try_agg_24 rfl rfl) ?_
    refine reg_cons (guard_no rfl) (op_load_vp (p := .vs 2 (List.map eGOwner c1)) rfl rfl rfl Try_one_39 rfl rfl) ?_
    obtain ⟨y6, h7, hF⟩ := bind_some hF
    refine reg_cons (guard_no rfl) (op_call 2 rfl (caps := []) (args := [.agg (eGOwner a0), .vs 2 (List.map eGOwner c1)]) (rs := [.p (.agg (eGOwner y6))]) rfl rfl rfl Try_cal_62 (owner_Put_ok h7) rfl rfl rfl) ?_
    refine reg_cons (guard_no rfl) (op_store_lp (n := 2) rfl rfl rfl rfl rfl (or_agg Try_agg_24) (by rw [Try_non_24]; rfl) rfl rfl rfl) ?_
    refine reg_nil ?_
    refine post_imp (s' := ⟨22, [(5, some (.lp 0 0))], [(0, some (.box 24 (bxv (eGOwner y6))))], 1, [], [], 0, []⟩) (imps [1] ⟨by kernel_rfl, trivial⟩ ⟨by kernel_rfl, trivial⟩) ?_
    refine post_next ?_
    refine aw_ret ?_
    refine post_block_ret ?_
    refine post_then_ret ?_
    obtain rfl := Option.some.inj hF
    exact post_ret rfl rfl (.cons _ _ _ _ _ (.agg _ _ _ _ _ 2 _ _ rfl rfl Try_agg_24 rfl rfl rfl) (.p _) .nil) (.inl rfl)
  refine aw_cond_f rfl hb5 ?_
  refine aw_seq ?_
  refine aw_region ?_
  refine reg_cons (guard_no rfl) (op_load_vp (p := .vs 1 (List.map eI c2)) rfl rfl rfl Try_one_55 rfl rfl) ?_
  refine reg_cons (guard_no rfl) (op_field_lp rfl rfl Try_fld_24_0 rfl rfl) ?_
  refine reg_cons (guard_no rfl) (op_load_lp (v := .pv (.int .i64 a0.fKind)) rfl rfl rfl rfl Try_one_3 rfl rfl) ?_
  obtain ⟨y10, h11, hF⟩ := bind_some hF
  refine reg_cons (guard_no rfl) (op_call 2 rfl (caps := []) (args := [.vs 1 (List.map eI c2), .int .i64 a0.fKind]) (rs := [.p (.bool y10)]) rfl rfl rfl Try_cal_66 (slices_Contains_int_ok h11) rfl rfl rfl) ?_
  refine ras ?_
  refine reg_nil ?_
  refine post_imp (s' := ⟨22, [(4, some (.lp 0 0)), (5, some (.lp 1 0)), (14, some (.pv (.bool y10)))], [(0, some (.box 24 (bxv (eGOwner a0)))), (1, some (.box 24 (bxv (eGOwner zGOwner))))], 2, [], [], 0, []⟩) (imps [0, 1] ⟨by kernel_rfl, by kernel_rfl, by kernel_rfl, trivial⟩ ⟨by kernel_rfl, by kernel_rfl, trivial⟩) ?_
  refine post_next ?_
  rcases ite_some hF with ⟨hb12, hF⟩ | ⟨hb12, hF⟩
  · refine aw_cond_t rfl hb12 ?_
    refine aw_seq ?_
    refine aw_region ?_
    refine reg_cons (guard_no rfl) (op_load_lp_agg (ps := eGOwner a0) rfl rfl rfl rfl rfl rfl Try_agg_24 rfl rfl) ?_
    refine reg_cons (guard_no rfl) (op_store_lp (n := 2) rfl rfl rfl rfl rfl (or_agg Try_agg_24) (by rw [Try_non_24]; rfl) rfl rfl rfl) ?_
    refine reg_nil ?_
    refine post_imp (s' := ⟨22, [(5, some (.lp 0 0))], [(0, some (.box 24 (bxv (eGOwner a0))))], 1, [], [], 0, []⟩) (imps [1] ⟨by kernel_rfl, trivial⟩ ⟨by kernel_rfl, trivial⟩) ?_
    refine post_next ?_
    refine aw_ret ?_
    refine post_block_ret ?_
    refine post_then_ret ?_
    obtain rfl := Option.some.inj hF
    exact post_ret rfl rfl (.cons _ _ _ _ _ (.agg _ _ _ _ _ 2 _ _ rfl rfl Try_agg_24 rfl rfl rfl) (.p _) .nil) (.inl rfl)
  refine aw_cond_f rfl hb12 ?_
  refine aw_skip ?_
  refine post_block_normal ?_
  refine post_next ?_
  refine aw_seq ?_
  refine aw_region ?_
  refine reg_cons (guard_no rfl) (op_load_lp_agg (ps := eGOwner a0) rfl rfl rfl rfl rfl rfl Try_agg_24 rfl rfl) ?_
  obtain ⟨y13, h14, hF⟩ := bind_some hF
  refine reg_cons (guard_no rfl) (op_call 2 rfl (caps := []) (args := [.agg (eGOwner a0)]) (rs := [.p (.agg (eGOwner y13))]) rfl rfl rfl Try_cal_45 (adapt_dark_ok h14) rfl rfl rfl) ?_
  refine reg_cons (guard_no rfl) (op_store_lp (n := 2) rfl rfl rfl rfl rfl (or_agg Try_agg_24) (by rw [Try_non_24]; rfl) rfl rfl rfl) ?_
  refine reg_nil ?_
  refine post_imp (s' := ⟨22, [(5, some (.lp 0 0))], [(0, some (.box 24 (bxv (eGOwner y13))))], 1, [], [], 0, []⟩) (imps [1] ⟨by kernel_rfl, trivial⟩ ⟨by kernel_rfl, trivial⟩) ?_
  refine post_next ?_
  refine aw_ret ?_
  obtain rfl := Option.some.inj hF
  exact post_ret rfl rfl (.cons _ _ _ _ _ (.agg _ _ _ _ _ 2 _ _ rfl rfl Try_agg_24 rfl rfl rfl) (.p _) .nil) (.inl rfl)
def adapt_made_2 (a0 : GOwner) (c0 : List GOwner) : Option GOwner :=
  if (a0.fKind == 1) = true then
    Option.bind (adapt_dark a0) fun (y2 : GOwner) =>
    some y2
  else
    Option.bind (owner_Put a0 c0) fun (y4 : GOwner) =>
    some y4
theorem adapt_made_2_ok {a0 : GOwner} {c0 : List GOwner} {r : GOwner} (hF : adapt_made_2 a0 c0 = some r) : Abs.Fn Try.prog 72 [.agg (eGOwner a0), .vp ((eL 2 eGOwner) c0)] [.p (.agg (eGOwner r))] := by
  unfold adapt_made_2 at hF
  refine fn_of_body (n := 12) Try.func72 rfl rfl rfl ?_
  intro w O
  refine aw_seq ?_
  refine aw_region ?_
  refine reg_cons (guard_no rfl) (op_box 0 rfl rfl rfl rfl rfl rfl) ?_
  refine reg_cons (guard_no rfl) (op_alloc 1 rfl (ps := (eGOwner zGOwner)) rfl Try_zer_24 (by exact ⟨rfl, rfl, trivial⟩) rfl rfl) ?_
  refine reg_nil ?_
  refine post_imp (s' := ⟨12, [(1, some (.pv (.vp ((eL 2 eGOwner) c0)))), (2, some (.lp 0 0)), (3, some (.lp 1 0))], [(0, some (.box 24 (bxv (eGOwner a0)))), (1, some (.box 24 (bxv (eGOwner zGOwner))))], 2, [], [], 0, []⟩) (imps [0, 1] ⟨by kernel_rfl, by kernel_rfl, by kernel_rfl, trivial⟩ ⟨by kernel_rfl, by kernel_rfl, trivial⟩) ?_
  refine post_next ?_
  iterate 2 (refine aw_seq ?_)
  refine aw_region ?_
  refine reg_cons (guard_no rfl) (op_field_lp rfl rfl Try_fld_24_0 rfl rfl) ?_
  refine reg_cons (guard_no rfl) (op_load_lp (v := .pv (.int .i64 a0.fKind)) rfl rfl rfl rfl Try_one_3 rfl rfl) ?_
  refine reg_cons (guard_no rfl) (op_int (k := .i64) (m := a0.fKind) (n := 1) rfl rfl rfl rfl rfl rfl) ?_
  refine reg_nil ?_
  refine post_imp (s' := ⟨12, [(1, some (.pv (.vp ((eL 2 eGOwner) c0)))), (2, some (.lp 0 0)), (3, some (.lp 1 0)), (6, some (.pv (.bool (a0.fKind == 1))))], [(0, some (.box 24 (bxv (eGOwner a0)))), (1, some (.box 24 (bxv (eGOwner zGOwner))))], 2, [], [], 0, []⟩) (imps [0, 1] ⟨by kernel_rfl, by kernel_rfl, by kernel_rfl, by kernel_rfl, trivial⟩ ⟨by kernel_rfl, by kernel_rfl, trivial⟩) ?_
  refine post_next ?_
  rcases ite_some hF with ⟨hb1, hF⟩ | ⟨hb1, hF⟩
  · refine aw_cond_t rfl hb1 ?_
    refine aw_seq ?_
    refine aw_region ?_
    refine reg_cons (guard_no rfl) (op_load_lp_agg (ps := eGOwner a0) rfl rfl rfl rfl rfl rfl Try_agg_24 rfl rfl) ?_
    obtain ⟨y2, h3, hF⟩ := bind_some hF
    refine reg_cons (guard_no rfl) (op_call 2 rfl (caps := []) (args := [.agg (eGOwner a0)]) (rs := [.p (.agg (eGOwner y2))]) rfl rfl rfl Try_cal_45 (adapt_dark_ok h3) rfl rfl rfl) ?_
    refine reg_cons (guard_no rfl) (op_store_lp (n := 2) rfl rfl rfl rfl rfl (or_agg Try_agg_24) (by rw [Try_non_24]; rfl) rfl rfl rfl) ?_
    refine reg_nil ?_
    refine post_imp (s' := ⟨12, [(3, some (.lp 0 0))], [(0, some (.box 24 (bxv (eGOwner y2))))], 1, [], [], 0, []⟩) (imps [1] ⟨by kernel_rfl, trivial⟩ ⟨by kernel_rfl, trivial⟩) ?_
    refine post_next ?_
    refine aw_ret ?_
    refine post_then_ret ?_
    obtain rfl := Option.some.inj hF
    exact post_ret rfl rfl (.cons _ _ _ _ _ (.agg _ _ _ _ _ 2 _ _ rfl rfl Try_agg_24 rfl rfl rfl) (.p _) .nil) (.inl rfl)
  refine aw_cond_f rfl hb1 ?_
  refine aw_skip ?_
  refine post_next ?_
  refine aw_seq ?_
  refine aw_region ?_
  refine reg_cons (guard_no rfl) (op_load_lp_agg (ps := eGOwner a0) rfl rfl rfl rfl rfl rfl Try_agg_24 rfl rfl) ?_
  refine reg_cons (guard_no rfl) (op_load_vp (p := .vs 2 (List.map eGOwner c0)) rfl rfl rfl Try_one_39 rfl rfl) ?_
  obtain ⟨y4, h5, hF⟩ := bind_some hF
  refine reg_cons (guard_no rfl) (op_call 2 rfl (caps := []) (args := [.agg (eGOwner a0), .vs 2 (List.map eGOwner c0)]) (rs := [.p (.agg (eGOwner y4))]) rfl rfl rfl Try_cal_62 (owner_Put_ok h5) rfl rfl rfl) ?_
  refine reg_cons (guard_no rfl) (op_store_lp (n := 2) rfl rfl rfl rfl rfl (or_agg Try_agg_24) (by rw [Try_non_24]; rfl) rfl rfl rfl) ?_
  refine reg_nil ?_
  refine post_imp (s' := ⟨12, [(3, some (.lp 0 0))], [(0, some (.box 24 (bxv (eGOwner y4))))], 1, [], [], 0, []⟩) (imps [1] ⟨by kernel_rfl, trivial⟩ ⟨by kernel_rfl, trivial⟩) ?_
  refine post_next ?_
  refine aw_ret ?_
  obtain rfl := Option.some.inj hF
  exact post_ret rfl rfl (.cons _ _ _ _ _ (.agg _ _ _ _ _ 2 _ _ rfl rfl Try_agg_24 rfl rfl rfl) (.p _) .nil) (.inl rfl)
def adapt_made (a0 : List GClass) (a1 : GView_adapt) (a2 : List UInt8) : Option Clo0 :=
  Option.bind (kind_Owners a1.fObject) fun (y5 : (List GOwner)) =>
  Option.bind (raise_Raise a0 a1.fObject.fClass y5 a2) fun (y7 : (List GOwner) × Bool) =>
  if (!y7.2) = true then
    some (⟨45, [], fun z => adapt_dark z, Try_cal_45, fun z r h => adapt_dark_ok h⟩ : Clo0)
  else
    if a1.fThis = true then
      some (⟨70, [.vp ((eL 2 eGOwner) y7.1)], fun z => adapt_made_1 z y7.1, Try_cal_70, fun z r h => adapt_made_1_ok h⟩ : Clo0)
    else
      Option.bind (kind_Unique a1.fObject) fun (y13 : Bool) =>
      if y13 = true then
        Option.bind (adapt_through y7.1 [3] [4, 6]) fun (y16 : (List Int) × (List GOwner) × (List Int)) =>
        some (⟨86, [.vp ((eL 1 eI) y16.1), .vp ((eL 2 eGOwner) y16.2.1), .vp ((eL 1 eI) y16.2.2)], fun z => adapt_through_1 z y16.1 y16.2.1 y16.2.2, Try_cal_86, fun z r h => adapt_through_1_ok h⟩ : Clo0)
      else
        if (a1.fMode == 1) = true then
          some (⟨72, [.vp ((eL 2 eGOwner) y7.1)], fun z => adapt_made_2 z y7.1, Try_cal_72, fun z r h => adapt_made_2_ok h⟩ : Clo0)
        else
          if (a1.fMode == 2) = true then
            Option.bind (Option.bind (Option.bind (idx y7.1 0) fun (y22 : GOwner) =>
            if (y22.fKind != 1) = true then
              Option.bind (idx y7.1 0) fun (y25 : GOwner) =>
              some (y25.fKind != 2)
            else
              some false : Option (Bool)) fun x27 =>
            if x27 = true then
              some []
            else
              some [2] : Option ((List Int))) fun x31 =>
            Option.bind (adapt_through y7.1 x31 [5, 6]) fun (y34 : (List Int) × (List GOwner) × (List Int)) =>
            some (⟨86, [.vp ((eL 1 eI) y34.1), .vp ((eL 2 eGOwner) y34.2.1), .vp ((eL 1 eI) y34.2.2)], fun z => adapt_through_1 z y34.1 y34.2.1 y34.2.2, Try_cal_86, fun z r h => adapt_through_1_ok h⟩ : Clo0)
          else
            some (⟨45, [], fun z => adapt_dark z, Try_cal_45, fun z r h => adapt_dark_ok h⟩ : Clo0)
def adapt_See_L1 (y3 : Clo0) (y7 : (List GOwner)) : Nat → GType → Int → Option (GType)
  | 0, _, _ => none
  | n + 1, x24, x25 =>
    if (decide (x25 < (y7.length : Int))) = true then
      Option.bind (Option.bind (idx y7 x25) fun (y56 : GOwner) =>
      Option.bind (y3.q y56) fun (y62 : GOwner) =>
      Option.bind (idx (x24.fOwn).l x25) fun (y64 : GOwner) =>
      Option.bind (idx (({ x24 with fOwn := (A4.set x24.fOwn (x25 : Int).toNat y62) } : GType).fOwn).l x25) fun (y68 : GOwner) =>
      if (y68.fKind == 8) = true then
        Option.bind (adapt_dark y56) fun (y71 : GOwner) =>
        Option.bind (idx (({ x24 with fOwn := (A4.set x24.fOwn (x25 : Int).toNat y62) } : GType).fOwn).l x25) fun (y73 : GOwner) =>
        some ({ ({ x24 with fOwn := (A4.set x24.fOwn (x25 : Int).toNat y62) } : GType) with fOwn := (A4.set (({ x24 with fOwn := (A4.set x24.fOwn (x25 : Int).toNat y62) } : GType).fOwn) (x25 : Int).toNat y71) } : GType)
      else
        some ({ x24 with fOwn := (A4.set x24.fOwn (x25 : Int).toNat y62) } : GType) : Option (GType)) fun x75 =>
      adapt_See_L1 y3 y7 n x75 (w_i64 (x25 + 1))
    else
      some x24
def adapt_See (a0 : List GClass) (a1 : GView_adapt) (a2 : List UInt8) (a3 : GType) : Option GType :=
  Option.bind (adapt_made a0 a1 a2) fun (y3 : Clo0) =>
  Option.bind (kind_Owners a3) fun (y7 : (List GOwner)) =>
  Option.bind (adapt_See_L1 y3 y7 ((((y7.length : Int) : Int) - (0)).toNat + 1) a3 0) fun x80 =>
  some x80
def slices_IndexFunc_api_Owner_L1 (a0 : List GOwner) (q1 : GOwner → Option Bool) : Nat → Int → Option (Ctl (Int) (Unit))
  | 0, _ => none
  | n + 1, x11 =>
    if (decide (x11 < (a0.length : Int))) = true then
      Option.bind (idx a0 x11) fun (y28 : GOwner) =>
      Option.bind (q1 y28) fun (y30 : Bool) =>
      if y30 = true then
        some (.stop x11)
      else
        slices_IndexFunc_api_Owner_L1 a0 q1 n (w_i64 (x11 + 1))
    else
      some (.next ())
def slices_IndexFunc_api_Owner (a0 : List GOwner) (q1 : GOwner → Option Bool) : Option Int :=
  Option.bind (slices_IndexFunc_api_Owner_L1 a0 q1 ((((a0.length : Int) : Int) - (0)).toNat + 1) 0) fun lr34 =>
  Ctl.elim lr34 (fun v => some v) fun _ =>
  some (-1)
def slices_ContainsFunc_api_Owner (a0 : List GOwner) (q1 : GOwner → Option Bool) : Option Bool :=
  Option.bind (slices_IndexFunc_api_Owner a0 q1) fun (y1 : Int) =>
  some (decide (y1 ≥ 0))
def adapt_Hidden_1 (a0 : GOwner) : Option Bool :=
  some (a0.fKind == 8)
def adapt_Hidden (a0 : GType) : Option Bool :=
  Option.bind (kind_Owners a0) fun (y1 : (List GOwner)) =>
  Option.bind (slices_ContainsFunc_api_Owner y1 (fun (z3 : GOwner) => adapt_Hidden_1 z3)) fun (y4 : Bool) =>
  some y4
def law26_awake  : Option Bool :=
  Option.bind (adapt_See [({ fName := [65], fParams := [], fSuper := [], fAbove := [], fFields := [], fMethods := [], fAt := 0 } : GClass)] ({ fMode := 1, fObject := ({ fKind := 2, fClass := [65], fN := 0, fOwn := (⟨({ fKind := 1, fN := 0 } : GOwner), zGOwner, zGOwner, zGOwner⟩ : A4 GOwner) } : GType), fThis := false } : GView_adapt) [65] ({ fKind := 2, fClass := [66], fN := 0, fOwn := (⟨({ fKind := 2, fN := 0 } : GOwner), zGOwner, zGOwner, zGOwner⟩ : A4 GOwner) } : GType)) fun (y1 : GType) =>
  if (bGType y1 ({ fKind := 2, fClass := [66], fN := 0, fOwn := (⟨({ fKind := 1, fN := 0 } : GOwner), zGOwner, zGOwner, zGOwner⟩ : A4 GOwner) } : GType)) = true then
    Option.bind (adapt_See [({ fName := [65], fParams := [], fSuper := [], fAbove := [], fFields := [], fMethods := [], fAt := 0 } : GClass)] ({ fMode := 1, fObject := ({ fKind := 2, fClass := [65], fN := 0, fOwn := (⟨({ fKind := 1, fN := 0 } : GOwner), zGOwner, zGOwner, zGOwner⟩ : A4 GOwner) } : GType), fThis := false } : GView_adapt) [65] ({ fKind := 2, fClass := [66], fN := 0, fOwn := (⟨({ fKind := 1, fN := 0 } : GOwner), zGOwner, zGOwner, zGOwner⟩ : A4 GOwner) } : GType)) fun (y4 : GType) =>
    Option.bind (adapt_Hidden y4) fun (y6 : Bool) =>
    some y6
  else
    some false
def adapt_Read (a0 : List GClass) (a1 : GView_adapt) (a2 : List UInt8) (a3 : GType) : Option GType :=
  Option.bind (adapt_See a0 a1 a2 a3) fun (y3 : GType) =>
  Option.bind (if (y3.fKind == 2) = true then
    if (a1.fMode == 2) = true then
      Option.bind (kind_Unique a1.fObject) fun (y7 : Bool) =>
      if (!y7) = true then
        some (y3.fOwn.a0.fKind == 8)
      else
        some false
    else
      some false
  else
    some false : Option (Bool)) fun x10 =>
  if x10 = true then
    some ({ y3 with fOwn := ({ y3.fOwn with a0 := ({ fKind := 5, fN := 0 } : GOwner) } : A4 GOwner) } : GType)
  else
    some y3
def law26_AdaptShown_L1 (y36 : (List GOwner)) : Nat → Bool → Int → Option (Bool)
  | 0, _, _ => none
  | n + 1, x43, x44 =>
    if (decide (x44 < (y36.length : Int))) = true then
      Option.bind (if x43 = true then
        some true
      else
        Option.bind (idx y36 x44) fun (y56 : GOwner) =>
        some (y56.fKind == 1) : Option (Bool)) fun x58 =>
      law26_AdaptShown_L1 y36 n x58 (w_i64 (x44 + 1))
    else
      some x43
def law26_AdaptShown (a0 : List GClass) (a1 : GType) (a2 : GType) : Option Bool :=
  Option.bind (ref13_Find a0 a1.fClass) fun (y3 : Int) =>
  Option.bind (Option.bind (law26_great a0) fun (y7 : Bool) =>
  if y7 = true then
    some true
  else
    if (decide (y3 < 0)) = true then
      some true
    else
      Option.bind (idx a0 y3) fun (y11 : GClass) =>
      if (decide ((y11.fParams.length : Int) > 3)) = true then
        some true
      else
        if (a1.fKind != 2) = true then
          some true
        else
          Option.bind (idx a0 y3) fun (y15 : GClass) =>
          if (a1.fN != (y15.fParams.length : Int)) = true then
            some true
          else
            Option.bind (ref05_Unique a1) fun (y18 : Bool) =>
            if y18 = true then
              some true
            else
              Option.bind (idx a0 y3) fun (y21 : GClass) =>
              Option.bind (ref05_Right a2 (y21.fParams.length : Int)) fun (y23 : Bool) =>
              if (!y23) = true then
                some true
              else
                Option.bind (ref26_Hidden a1) fun (y26 : Bool) =>
                some y26 : Option (Bool)) fun x28 =>
  if x28 = true then
    Option.bind law26_awake fun (y32 : Bool) =>
    some y32
  else
    Option.bind (ref05_Owners a2) fun (y36 : (List GOwner)) =>
    Option.bind (law26_AdaptShown_L1 y36 ((((y36.length : Int) : Int) - (0)).toNat + 1) false 0) fun x63 =>
    Option.bind (adapt_See a0 ({ fMode := 1, fObject := a1, fThis := false } : GView_adapt) a1.fClass a2) fun (y67 : GType) =>
    Option.bind (adapt_Read a0 ({ fMode := 2, fObject := a1, fThis := false } : GView_adapt) a1.fClass a2) fun (y71 : GType) =>
    Option.bind (adapt_Hidden y67) fun (y73 : Bool) =>
    if (y73 == x63) = true then
      if (decide ((y36.length : Int) > 1)) = true then
        if (y67.fClass == a2.fClass) = true then
          if (y67.fN == a2.fN) = true then
            Option.bind law26_awake fun (y79 : Bool) =>
            some y79
          else
            some false
        else
          some false
      else
        Option.bind (adapt_Hidden y71) fun (y81 : Bool) =>
        if (!y81) = true then
          if (y67.fClass == a2.fClass) = true then
            if (y67.fN == a2.fN) = true then
              Option.bind law26_awake fun (y86 : Bool) =>
              some y86
            else
              some false
          else
            some false
        else
          some false
    else
      some false

end
end Go.Proofs.Ytkfgkkbfipgklaa
