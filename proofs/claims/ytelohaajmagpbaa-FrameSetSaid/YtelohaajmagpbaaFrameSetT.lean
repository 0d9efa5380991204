/- A part of the proof that the law FrameSet gives true for every input. -/
import Derived.Test.YtelohaajmagpbaaFrameSetA3
/- The types and the plain functions. -/
namespace Go.Proofs.Ytelohaajmagpbaa
open Go.RowKit Go.Abs
noncomputable section
structure GOwner where
  fKind : Int
  fN : Int
  deriving DecidableEq
abbrev zGOwner : GOwner := ({ fKind := 0, fN := 0 } : GOwner)
abbrev eGOwner (x : GOwner) : List PV := [.int .i64 x.fKind, .int .i64 x.fN]
structure GType where
  fKind : Int
  fClass : List UInt8
  fN : Int
  fOwn : A4 GOwner
  deriving DecidableEq
abbrev zGType : GType := ({ fKind := 0, fClass := [], fN := 0, fOwn := (⟨zGOwner, zGOwner, zGOwner, zGOwner⟩ : A4 GOwner) } : GType)
abbrev eGType (x : GType) : List PV := [.int .i64 x.fKind, .str x.fClass, .int .i64 x.fN, .int .i64 x.fOwn.a0.fKind, .int .i64 x.fOwn.a0.fN, .int .i64 x.fOwn.a1.fKind, .int .i64 x.fOwn.a1.fN, .int .i64 x.fOwn.a2.fKind, .int .i64 x.fOwn.a2.fN, .int .i64 x.fOwn.a3.fKind, .int .i64 x.fOwn.a3.fN]
structure GVar where
  fName : List UInt8
  fType : GType
  fAt : Int
  deriving DecidableEq
abbrev zGVar : GVar := ({ fName := [], fType := zGType, fAt := 0 } : GVar)
abbrev eGVar (x : GVar) : List PV := [.str x.fName, .int .i64 x.fType.fKind, .str x.fType.fClass, .int .i64 x.fType.fN, .int .i64 x.fType.fOwn.a0.fKind, .int .i64 x.fType.fOwn.a0.fN, .int .i64 x.fType.fOwn.a1.fKind, .int .i64 x.fType.fOwn.a1.fN, .int .i64 x.fType.fOwn.a2.fKind, .int .i64 x.fType.fOwn.a2.fN, .int .i64 x.fType.fOwn.a3.fKind, .int .i64 x.fType.fOwn.a3.fN, .int .i64 x.fAt]
structure GExpr where
  fKind : Int
  fNum : Int
  fName : List UInt8
  fKids : List GExpr
abbrev zGExpr : GExpr := ({ fKind := 0, fNum := 0, fName := [], fKids := [] } : GExpr)
mutual
def rGExpr : GExpr → List PV
  | ⟨z0, z1, z2, z3⟩ => [.int .i64 z0, .int .i64 z1, .str z2, .vs 4 (eLGExpr z3)]
def eLGExpr : List GExpr → List (List PV)
  | [] => []
  | x :: l => rGExpr x :: eLGExpr l
end
abbrev eGExpr (x : GExpr) : List PV := [.int .i64 x.fKind, .int .i64 x.fNum, .str x.fName, .vs 4 (eLGExpr x.fKids)]
theorem rGExpr_eq (x : GExpr) : rGExpr x = eGExpr x := by cases x; simp only [rGExpr]
theorem eLGExpr_map : ∀ l : List GExpr, eLGExpr l = l.map eGExpr
  | [] => by simp only [eLGExpr, List.map_nil]
  | x :: l => by simp only [eLGExpr, List.map_cons, rGExpr_eq, eLGExpr_map l]
mutual
def mGExpr : GExpr → Nat
  | ⟨_, _, _, z3⟩ => 1 + mLGExpr z3
def mLGExpr : List GExpr → Nat
  | [] => 0
  | x :: l => mGExpr x + mLGExpr l
end
structure GStmt where
  fKind : Int
  fX : List UInt8
  fY : List UInt8
  fName : List UInt8
  fType : GType
  fE : GExpr
  fArgs : List GExpr
  fBody : List GStmt
  fElse : List GStmt
  fAt : Int
abbrev zGStmt : GStmt := ({ fKind := 0, fX := [], fY := [], fName := [], fType := zGType, fE := zGExpr, fArgs := [], fBody := [], fElse := [], fAt := 0 } : GStmt)
mutual
def rGStmt : GStmt → List PV
  | ⟨z0, z1, z2, z3, z4, z5, z6, z7, z8, z9⟩ => [.int .i64 z0, .str z1, .str z2, .str z3, .int .i64 z4.fKind, .str z4.fClass, .int .i64 z4.fN, .int .i64 z4.fOwn.a0.fKind, .int .i64 z4.fOwn.a0.fN, .int .i64 z4.fOwn.a1.fKind, .int .i64 z4.fOwn.a1.fN, .int .i64 z4.fOwn.a2.fKind, .int .i64 z4.fOwn.a2.fN, .int .i64 z4.fOwn.a3.fKind, .int .i64 z4.fOwn.a3.fN, .int .i64 z5.fKind, .int .i64 z5.fNum, .str z5.fName, .vs 4 (eLGExpr z5.fKids), .vs 4 (eLGExpr z6), .vs 23 (eLGStmt z7), .vs 23 (eLGStmt z8), .int .i64 z9]
def eLGStmt : List GStmt → List (List PV)
  | [] => []
  | x :: l => rGStmt x :: eLGStmt l
end
abbrev eGStmt (x : GStmt) : List PV := [.int .i64 x.fKind, .str x.fX, .str x.fY, .str x.fName, .int .i64 x.fType.fKind, .str x.fType.fClass, .int .i64 x.fType.fN, .int .i64 x.fType.fOwn.a0.fKind, .int .i64 x.fType.fOwn.a0.fN, .int .i64 x.fType.fOwn.a1.fKind, .int .i64 x.fType.fOwn.a1.fN, .int .i64 x.fType.fOwn.a2.fKind, .int .i64 x.fType.fOwn.a2.fN, .int .i64 x.fType.fOwn.a3.fKind, .int .i64 x.fType.fOwn.a3.fN, .int .i64 x.fE.fKind, .int .i64 x.fE.fNum, .str x.fE.fName, .vs 4 (eLGExpr x.fE.fKids), .vs 4 (eLGExpr x.fArgs), .vs 23 (eLGStmt x.fBody), .vs 23 (eLGStmt x.fElse), .int .i64 x.fAt]
theorem rGStmt_eq (x : GStmt) : rGStmt x = eGStmt x := by cases x; simp only [rGStmt]
theorem eLGStmt_map : ∀ l : List GStmt, eLGStmt l = l.map eGStmt
  | [] => by simp only [eLGStmt, List.map_nil]
  | x :: l => by simp only [eLGStmt, List.map_cons, rGStmt_eq, eLGStmt_map l]
mutual
def mGStmt : GStmt → Nat
  | ⟨_, _, _, _, _, z5, z6, z7, z8, _⟩ => 1 + mGExpr z5 + mLGExpr z6 + mLGStmt z7 + mLGStmt z8
def mLGStmt : List GStmt → Nat
  | [] => 0
  | x :: l => mGStmt x + mLGStmt l
end
structure GMethod where
  fName : List UInt8
  fPure : Bool
  fRet : GType
  fParams : List GVar
  fLocals : List GVar
  fBody : List GStmt
  fAt : Int
abbrev zGMethod : GMethod := ({ fName := [], fPure := false, fRet := zGType, fParams := [], fLocals := [], fBody := [], fAt := 0 } : GMethod)
def mGMethod : GMethod → Nat
  | ⟨_, _, _, _, _, z5, _⟩ => 1 + mLGStmt z5
def mLGMethod : List GMethod → Nat
  | [] => 0
  | x :: l => mGMethod x + mLGMethod l
abbrev eGMethod (x : GMethod) : List PV := [.str x.fName, .bool x.fPure, .int .i64 x.fRet.fKind, .str x.fRet.fClass, .int .i64 x.fRet.fN, .int .i64 x.fRet.fOwn.a0.fKind, .int .i64 x.fRet.fOwn.a0.fN, .int .i64 x.fRet.fOwn.a1.fKind, .int .i64 x.fRet.fOwn.a1.fN, .int .i64 x.fRet.fOwn.a2.fKind, .int .i64 x.fRet.fOwn.a2.fN, .int .i64 x.fRet.fOwn.a3.fKind, .int .i64 x.fRet.fOwn.a3.fN, .vs 13 (List.map eGVar x.fParams), .vs 13 (List.map eGVar x.fLocals), .vs 23 (eLGStmt x.fBody), .int .i64 x.fAt]
structure GClass where
  fName : List UInt8
  fParams : List (List UInt8)
  fSuper : List UInt8
  fAbove : List GOwner
  fFields : List GVar
  fMethods : List GMethod
  fAt : Int
abbrev zGClass : GClass := ({ fName := [], fParams := [], fSuper := [], fAbove := [], fFields := [], fMethods := [], fAt := 0 } : GClass)
def mGClass : GClass → Nat
  | ⟨_, _, _, _, _, z5, _⟩ => 1 + mLGMethod z5
def mLGClass : List GClass → Nat
  | [] => 0
  | x :: l => mGClass x + mLGClass l
abbrev eGClass (x : GClass) : List PV := [.str x.fName, .vs 1 (List.map eS x.fParams), .str x.fSuper, .vs 2 (List.map eGOwner x.fAbove), .vs 13 (List.map eGVar x.fFields), .vs 17 (List.map eGMethod x.fMethods), .int .i64 x.fAt]
structure GVal where
  fRef : Bool
  fN : Int
  deriving DecidableEq
abbrev zGVal : GVal := ({ fRef := false, fN := 0 } : GVal)
abbrev eGVal (x : GVal) : List PV := [.bool x.fRef, .int .i64 x.fN]
structure GCell where
  fClass : List UInt8
  fOwn : A4 Int
  fFields : List GVal
  fDead : Bool
  deriving DecidableEq
abbrev zGCell : GCell := ({ fClass := [], fOwn := (⟨0, 0, 0, 0⟩ : A4 Int), fFields := [], fDead := false } : GCell)
abbrev eGCell (x : GCell) : List PV := [.str x.fClass, .int .i64 x.fOwn.a0, .int .i64 x.fOwn.a1, .int .i64 x.fOwn.a2, .int .i64 x.fOwn.a3, .vs 2 (List.map eGVal x.fFields), .bool x.fDead]
structure GFrame where
  fThis : Int
  fClass : List UInt8
  fMethod : List UInt8
  fVars : List GVal
  fPC : Int
  fInto : Int
  deriving DecidableEq
abbrev zGFrame : GFrame := ({ fThis := 0, fClass := [], fMethod := [], fVars := [], fPC := 0, fInto := 0 } : GFrame)
abbrev eGFrame (x : GFrame) : List PV := [.int .i64 x.fThis, .str x.fClass, .str x.fMethod, .vs 2 (List.map eGVal x.fVars), .int .i64 x.fPC, .int .i64 x.fInto]
structure GWorld_law38 where
  fL : List GCell
  fF : GFrame
  deriving DecidableEq
abbrev zGWorld_law38 : GWorld_law38 := ({ fL := [], fF := zGFrame } : GWorld_law38)
abbrev eGWorld_law38 (x : GWorld_law38) : List PV := [.vs 7 (List.map eGCell x.fL), .int .i64 x.fF.fThis, .str x.fF.fClass, .str x.fF.fMethod, .vs 2 (List.map eGVal x.fF.fVars), .int .i64 x.fF.fPC, .int .i64 x.fF.fInto]
structure GPut_law38 where
  fName : List UInt8
  fV : GVal
  deriving DecidableEq
abbrev zGPut_law38 : GPut_law38 := ({ fName := [], fV := zGVal } : GPut_law38)
abbrev eGPut_law38 (x : GPut_law38) : List PV := [.str x.fName, .bool x.fV.fRef, .int .i64 x.fV.fN]
def bGVal (a b : GVal) : Bool := (a.fRef == b.fRef && (a.fN == b.fN && true))
def ref10_uniques_L1 (a0 : GMethod) : Nat → Int → Int → Option (Int)
  | 0, _, _ => none
  | n + 1, x10, x11 =>
    if (decide (x11 < (a0.fParams.length : Int))) = true then
      Option.bind (Option.bind (idx a0.fParams x11) fun (y26 : GVar) =>
      if (y26.fType.fOwn.a0.fKind == 6) = true then
        some (w_i64 (x10 + 1))
      else
        some x10 : Option (Int)) fun x29 =>
      ref10_uniques_L1 a0 n x29 (w_i64 (x11 + 1))
    else
      some x10
def ref10_uniques_L2 (a0 : GMethod) : Nat → Int → Int → Option (Int)
  | 0, _, _ => none
  | n + 1, x45, x46 =>
    if (decide (x46 < (a0.fLocals.length : Int))) = true then
      Option.bind (Option.bind (idx a0.fLocals x46) fun (y61 : GVar) =>
      if (y61.fType.fOwn.a0.fKind == 6) = true then
        some (w_i64 (x45 + 1))
      else
        some x45 : Option (Int)) fun x64 =>
      ref10_uniques_L2 a0 n x64 (w_i64 (x46 + 1))
    else
      some x45
def ref10_uniques (a0 : GMethod) : Option Int :=
  Option.bind (ref10_uniques_L1 a0 ((((a0.fParams.length : Int) : Int) - (0)).toNat + 1) 0 0) fun x34 =>
  Option.bind (ref10_uniques_L2 a0 ((((a0.fLocals.length : Int) : Int) - (0)).toNat + 1) x34 0) fun x69 =>
  some x69
def ref10_kids_L1 (a0 : GExpr) (a1 : Int) (ref10_kids_rec : GExpr → Int → Option Bool) : Nat → Int → Option (Ctl (Bool) (Unit))
  | 0, _ => none
  | n + 1, x16 =>
    if (decide (x16 < (a0.fKids.length : Int))) = true then
      Option.bind (idx a0.fKids x16) fun (y33 : GExpr) =>
      Option.bind (ref10_kids_rec y33 (w_i64 (a1 - 1))) fun (y35 : Bool) =>
      if y35 = true then
        some (.stop true)
      else
        ref10_kids_L1 a0 a1 ref10_kids_rec n (w_i64 (x16 + 1))
    else
      some (.next ())
def ref10_kids : Nat → GExpr → Int → Option Bool
  | 0, _, _ => none
  | n + 1, a0, a1 =>
    Option.bind (if (decide (a1 < 0)) = true then
      some true
    else
      some (decide ((a0.fKids.length : Int) > 4)) : Option (Bool)) fun x2 =>
    if x2 = true then
      some true
    else
      Option.bind (ref10_kids_L1 a0 a1 (ref10_kids n) ((((a0.fKids.length : Int) : Int) - (0)).toNat + 1) 0) fun lr39 =>
      Ctl.elim lr39 (fun v => some v) fun _ =>
      some false
def ref10_much_L1 (a0 : GStmt) : Nat → Int → Option (Ctl (Bool) (Unit))
  | 0, _ => none
  | n + 1, x21 =>
    if (decide (x21 < (a0.fArgs.length : Int))) = true then
      Option.bind (idx a0.fArgs x21) fun (y38 : GExpr) =>
      Option.bind (ref10_kids (mGExpr y38 + 1) y38 25) fun (y40 : Bool) =>
      if y40 = true then
        some (.stop true)
      else
        ref10_much_L1 a0 n (w_i64 (x21 + 1))
    else
      some (.next ())
def ref10_much_L2 (a0 : GStmt) (a1 : Int) (ref10_much_rec : GStmt → Int → Option Bool) : Nat → Int → Option (Ctl (Bool) (Unit))
  | 0, _ => none
  | n + 1, x56 =>
    if (decide (x56 < (a0.fBody.length : Int))) = true then
      Option.bind (idx a0.fBody x56) fun (y73 : GStmt) =>
      Option.bind (ref10_much_rec y73 (w_i64 (a1 - 1))) fun (y75 : Bool) =>
      if y75 = true then
        some (.stop true)
      else
        ref10_much_L2 a0 a1 ref10_much_rec n (w_i64 (x56 + 1))
    else
      some (.next ())
def ref10_much_L3 (a0 : GStmt) (a1 : Int) (ref10_much_rec : GStmt → Int → Option Bool) : Nat → Int → Option (Ctl (Bool) (Unit))
  | 0, _ => none
  | n + 1, x91 =>
    if (decide (x91 < (a0.fElse.length : Int))) = true then
      Option.bind (idx a0.fElse x91) fun (y108 : GStmt) =>
      Option.bind (ref10_much_rec y108 (w_i64 (a1 - 1))) fun (y110 : Bool) =>
      if y110 = true then
        some (.stop true)
      else
        ref10_much_L3 a0 a1 ref10_much_rec n (w_i64 (x91 + 1))
    else
      some (.next ())
def ref10_much : Nat → GStmt → Int → Option Bool
  | 0, _, _ => none
  | n + 1, a0, a1 =>
    Option.bind (if (decide (a1 < 0)) = true then
      some true
    else
      if (decide ((a0.fBody.length : Int) > 500)) = true then
        some true
      else
        if (decide ((a0.fElse.length : Int) > 500)) = true then
          some true
        else
          if (decide ((a0.fArgs.length : Int) > 20)) = true then
            some true
          else
            Option.bind (ref10_kids (mGExpr a0.fE + 1) a0.fE 25) fun (y5 : Bool) =>
            some y5 : Option (Bool)) fun x7 =>
    if x7 = true then
      some true
    else
      Option.bind (ref10_much_L1 a0 ((((a0.fArgs.length : Int) : Int) - (0)).toNat + 1) 0) fun lr44 =>
      Ctl.elim lr44 (fun v => some v) fun _ =>
      Option.bind (ref10_much_L2 a0 a1 (ref10_much n) ((((a0.fBody.length : Int) : Int) - (0)).toNat + 1) 0) fun lr79 =>
      Ctl.elim lr79 (fun v => some v) fun _ =>
      Option.bind (ref10_much_L3 a0 a1 (ref10_much n) ((((a0.fElse.length : Int) : Int) - (0)).toNat + 1) 0) fun lr114 =>
      Ctl.elim lr114 (fun v => some v) fun _ =>
      some false
def ref08_Size_L1 (a0 : GStmt) (ref08_Size_rec : GStmt → Option Int) : Nat → Int → Int → Option (Int)
  | 0, _, _ => none
  | n + 1, x10, x11 =>
    if (decide (x11 < (a0.fBody.length : Int))) = true then
      Option.bind (idx a0.fBody x11) fun (y28 : GStmt) =>
      Option.bind (ref08_Size_rec y28) fun (y30 : Int) =>
      ref08_Size_L1 a0 ref08_Size_rec n (w_i64 (x10 + y30)) (w_i64 (x11 + 1))
    else
      some x10
def ref08_Size_L2 (a0 : GStmt) (ref08_Size_rec : GStmt → Option Int) : Nat → Int → Int → Option (Int)
  | 0, _, _ => none
  | n + 1, x45, x46 =>
    if (decide (x46 < (a0.fElse.length : Int))) = true then
      Option.bind (idx a0.fElse x46) fun (y63 : GStmt) =>
      Option.bind (ref08_Size_rec y63) fun (y65 : Int) =>
      ref08_Size_L2 a0 ref08_Size_rec n (w_i64 (x45 + y65)) (w_i64 (x46 + 1))
    else
      some x45
def ref08_Size : Nat → GStmt → Option Int
  | 0, _ => none
  | n + 1, a0 =>
    Option.bind (ref08_Size_L1 a0 (ref08_Size n) ((((a0.fBody.length : Int) : Int) - (0)).toNat + 1) 1 0) fun x34 =>
    Option.bind (ref08_Size_L2 a0 (ref08_Size n) ((((a0.fElse.length : Int) : Int) - (0)).toNat + 1) x34 0) fun x69 =>
    some x69
def ref10_Heavy_L3 (y685 : GMethod) : Nat → Int → Int → Option (Ctl (Bool) (Int))
  | 0, _, _ => none
  | n + 1, x714, x715 =>
    if (decide (x715 < (y685.fBody.length : Int))) = true then
      Option.bind (if (decide (x714 > 500)) = true then
        some true
      else
        Option.bind (idx y685.fBody x715) fun (y738 : GStmt) =>
        Option.bind (ref10_much (mGStmt y738 + 1) y738 25) fun (y740 : Bool) =>
        some y740 : Option (Bool)) fun x742 =>
      if x742 = true then
        some (.stop true)
      else
        Option.bind (idx y685.fBody x715) fun (y750 : GStmt) =>
        Option.bind (ref08_Size (mGStmt y750 + 1) y750) fun (y752 : Int) =>
        ref10_Heavy_L3 y685 n (w_i64 (x714 + y752)) (w_i64 (x715 + 1))
    else
      some (.next x714)
def ref10_Heavy_L2 (y514 : GClass) : Nat → Int → Int → Option (Ctl (Bool) (Int))
  | 0, _, _ => none
  | n + 1, x601, x602 =>
    if (decide (x602 < (y514.fMethods.length : Int))) = true then
      Option.bind (idx y514.fMethods x602) fun (y685 : GMethod) =>
      Option.bind (if (decide ((y685.fParams.length : Int) > 40)) = true then
        some true
      else
        if (decide ((y685.fLocals.length : Int) > 40)) = true then
          some true
        else
          if (decide ((y685.fBody.length : Int) > 500)) = true then
            some true
          else
            Option.bind (ref10_uniques y685) fun (y690 : Int) =>
            some (decide (y690 > 8)) : Option (Bool)) fun x692 =>
      if x692 = true then
        some (.stop true)
      else
        Option.bind (ref10_Heavy_L3 y685 ((((y685.fBody.length : Int) : Int) - (0)).toNat + 1) x601 0) fun lr757 =>
        Ctl.elim lr757 (fun v => some (.stop v)) fun x756 =>
        ref10_Heavy_L2 y514 n x756 (w_i64 (x602 + 1))
    else
      some (.next x601)
def ref10_Heavy_L1 (a0 : List GClass) : Nat → Int → Int → Option (Ctl (Bool) (Int))
  | 0, _, _ => none
  | n + 1, x254, x255 =>
    if (decide (x255 < (a0.length : Int))) = true then
      Option.bind (idx a0 x255) fun (y514 : GClass) =>
      Option.bind (if (decide ((a0.length : Int) > 30)) = true then
        some true
      else
        if (decide ((y514.fParams.length : Int) > 20)) = true then
          some true
        else
          if (decide ((y514.fAbove.length : Int) > 20)) = true then
            some true
          else
            if (decide ((y514.fFields.length : Int) > 40)) = true then
              some true
            else
              some (decide ((y514.fMethods.length : Int) > 40)) : Option (Bool)) fun x520 =>
      if x520 = true then
        some (.stop true)
      else
        Option.bind (ref10_Heavy_L2 y514 ((((y514.fMethods.length : Int) : Int) - (0)).toNat + 1) x254 0) fun lr762 =>
        Ctl.elim lr762 (fun v => some (.stop v)) fun x761 =>
        ref10_Heavy_L1 a0 n x761 (w_i64 (x255 + 1))
    else
      some (.next x254)
def ref10_Heavy (a0 : List GClass) : Option Bool :=
  Option.bind (ref10_Heavy_L1 a0 ((((a0.length : Int) : Int) - (0)).toNat + 1) 0 0) fun lr767 =>
  Ctl.elim lr767 (fun v => some v) fun x766 =>
  some (decide (x766 > 500))
def ref35_Great_L1 (a0 : List GCell) : Nat → Int → Option (Ctl (Bool) (Unit))
  | 0, _ => none
  | n + 1, x9 =>
    if (decide (x9 < (a0.length : Int))) = true then
      Option.bind (if (decide ((a0.length : Int) > 200)) = true then
        some true
      else
        Option.bind (idx a0 x9) fun (y21 : GCell) =>
        some (decide ((y21.fFields.length : Int) > 60)) : Option (Bool)) fun x23 =>
      if x23 = true then
        some (.stop true)
      else
        ref35_Great_L1 a0 n (w_i64 (x9 + 1))
    else
      some (.next ())
def ref35_Great (a0 : List GCell) : Option Bool :=
  Option.bind (ref35_Great_L1 a0 ((((a0.length : Int) : Int) - (0)).toNat + 1) 0) fun lr28 =>
  Ctl.elim lr28 (fun v => some v) fun _ =>
  some false
def law38_great (a0 : List GClass) (a1 : GWorld_law38) : Option Bool :=
  Option.bind (ref10_Heavy a0) fun (y1 : Bool) =>
  if y1 = true then
    some true
  else
    Option.bind (ref35_Great a1.fL) fun (y4 : Bool) =>
    if y4 = true then
      some true
    else
      some (decide ((a1.fF.fVars.length : Int) > 100))
def slices_IndexFunc_api_Class_L1 (a0 : List GClass) (q1 : GClass → Option Bool) : Nat → Int → Option (Ctl (Int) (Unit))
  | 0, _ => none
  | n + 1, x11 =>
    if (decide (x11 < (a0.length : Int))) = true then
      Option.bind (idx a0 x11) fun (y28 : GClass) =>
      Option.bind (q1 y28) fun (y30 : Bool) =>
      if y30 = true then
        some (.stop x11)
      else
        slices_IndexFunc_api_Class_L1 a0 q1 n (w_i64 (x11 + 1))
    else
      some (.next ())
def slices_IndexFunc_api_Class (a0 : List GClass) (q1 : GClass → Option Bool) : Option Int :=
  Option.bind (slices_IndexFunc_api_Class_L1 a0 q1 ((((a0.length : Int) : Int) - (0)).toNat + 1) 0) fun lr34 =>
  Ctl.elim lr34 (fun v => some v) fun _ =>
  some (-1)
def table_Find_1 (a0 : GClass) (c0 : List UInt8) : Option Bool :=
  some (a0.fName == c0)
def table_Find (a0 : List GClass) (a1 : List UInt8) : Option Int :=
  Option.bind (slices_IndexFunc_api_Class a0 (fun (z1 : GClass) => table_Find_1 z1 a1)) fun (y2 : Int) =>
  some y2
def table_Arity (a0 : List GClass) (a1 : List UInt8) : Option Int :=
  Option.bind (table_Find a0 a1) fun (y3 : Int) =>
  if (decide (y3 < 0)) = true then
    some (-1)
  else
    Option.bind (idx a0 y3) fun (y6 : GClass) =>
    some (y6.fParams.length : Int)
def slices_Clone_int (a0 : List Int) : Option (List Int) :=
  Option.bind (room ((([] : List Int).length : Int) + (a0.length : Int)) 8) fun _ =>
  some a0
def above_up (a0 : List GClass) (a1 : List UInt8) : Option ((List GClass) × (List UInt8)) :=
  some (a0, a1)
def above_up_1_L1 (c0 : List GClass) (sp : Nat) (rows : List (Int)) : Nat → Nat → (List UInt8) → Int → Option (Ctl (Nat) (Nat))
  | 0, _, _, _ => none
  | n + 1, x19, x20, x21 =>
    if (decide (x21 < (w_i64 ((c0.length : Int) + 1)))) = true then
      Option.bind (table_Find c0 x20) fun (y46 : Int) =>
      Option.bind (if (decide (y46 < 0)) = true then
        some (x19, true)
      else
        Option.bind (yck rows sp x19 y46) fun (u49 : Unit) =>
        some ((x19 + 1), (!(!(x19 == sp)))) : Option (Nat × Bool)) fun (x51, x52) =>
      if x52 = true then
        some (.stop x51)
      else
        Option.bind (idx c0 y46) fun (y58 : GClass) =>
        if (y58.fSuper == []) = true then
          some (.stop x51)
        else
          above_up_1_L1 c0 sp rows n x51 y58.fSuper (w_i64 (x21 + 1))
    else
      some (.next x19)
def above_up_1 (rows : List (Int)) (sp : Nat) (c0 : List GClass) (c1 : List UInt8) : Option Nat :=
  Option.bind (above_up_1_L1 c0 sp rows ((((w_i64 ((c0.length : Int) + 1)) : Int) - (0)).toNat + 1) 0 c1 0) fun lr65 =>
  Ctl.elim lr65 (fun v => some v) fun x64 =>
  some x64
def itR_up_n (p : List GClass) : Nat → List UInt8 → Option (List Int)
  | 0, _ => some []
  | n + 1, name => Option.bind (table_Find p name) fun i =>
    if i < 0 then some [] else
    Option.bind (idx p i) fun c =>
    if c.fSuper == [] then some [i] else
    Option.bind (itR_up_n p n c.fSuper) fun l => some (i :: l)
def itR_up (p : List GClass) (name : List UInt8) : Option (List Int) := if p.length < 9223372036854775806 then itR_up_n p (p.length + 1) name else none
def slices_Index_int_L1 (a0 : List Int) (a1 : Int) : Nat → Int → Option (Ctl (Int) (Unit))
  | 0, _ => none
  | n + 1, x7 =>
    if (decide (x7 < (a0.length : Int))) = true then
      Option.bind (idx a0 x7) fun (y18 : Int) =>
      if (a1 == y18) = true then
        some (.stop x7)
      else
        slices_Index_int_L1 a0 a1 n (w_i64 (x7 + 1))
    else
      some (.next ())
def slices_Index_int (a0 : List Int) (a1 : Int) : Option Int :=
  Option.bind (slices_Index_int_L1 a0 a1 ((((a0.length : Int) : Int) - (0)).toNat + 1) 0) fun lr22 =>
  Ctl.elim lr22 (fun v => some v) fun _ =>
  some (-1)
def slices_Contains_int (a0 : List Int) (a1 : Int) : Option Bool :=
  Option.bind (slices_Index_int a0 a1) fun (y1 : Int) =>
  some (decide (y1 ≥ 0))
def above_Chain_B1  : Int → (List Int) → Option (Ctl (List Int) (List Int))
  | x23, x13 =>
    Option.bind (slices_Contains_int x13 x23) fun (y26 : Bool) =>
    if y26 = true then
      some (.stop x13)
    else
      Option.bind (room ((x13.length : Int) + ([x23].length : Int)) 8) fun (u29 : Unit) =>
      some (.next (x13 ++ [x23]))
def above_Chain (a0 : List GClass) (a1 : List UInt8) : Option (List Int) :=
  Option.bind (above_up a0 a1) fun (y3 : (List GClass) × (List UInt8)) =>
  Option.bind (itR_up y3.1 y3.2) fun (rows33 : List (Int)) =>
  Option.bind (runs above_Chain_B1 rows33 []) fun (lr35 : Ctl (List Int) (List Int)) =>
  Ctl.elim lr35 (fun x32 =>
    some x32) (fun x13 =>
    some x13)
def raise_raise_int__L2 (q4 : GOwner → (List Int) → Option Int) (x96 : List Int) (y187 : GClass) : Nat → (List Int) → Int → Option ((List Int))
  | 0, _, _ => none
  | n + 1, x216, x217 =>
    if (decide (x217 < (y187.fAbove.length : Int))) = true then
      Option.bind (idx y187.fAbove x217) fun (y236 : GOwner) =>
      Option.bind (q4 y236 x96) fun (y242 : Int) =>
      Option.bind (room ((x216.length : Int) + ([y242].length : Int)) 8) fun (u244 : Unit) =>
      raise_raise_int__L2 q4 x96 y187 n (x216 ++ [y242]) (w_i64 (x217 + 1))
    else
      some x216
def raise_raise_int__L1 (a0 : List GClass) (q4 : GOwner → (List Int) → Option Int) (y3 : Int) (y19 : (List Int)) : Nat → (List Int) → Int → Option (Ctl ((List Int) × Bool) (Unit))
  | 0, _, _ => none
  | n + 1, x96, x97 =>
    if (decide (x97 < (y19.length : Int))) = true then
      Option.bind (idx y19 x97) fun (y178 : Int) =>
      if (y178 == y3) = true then
        some (.stop (x96, true))
      else
        Option.bind (cutL x96 0 1) fun (y183 : List Int) =>
        Option.bind (idx a0 y178) fun (y187 : GClass) =>
        Option.bind (if (decide (0 < (y187.fAbove.length : Int))) = true then
          Option.bind (idx y187.fAbove 0) fun (y192 : GOwner) =>
          Option.bind (q4 y192 x96) fun (y198 : Int) =>
          Option.bind (room ((y183.length : Int) + ([y198].length : Int)) 8) fun (u200 : Unit) =>
          raise_raise_int__L2 q4 x96 y187 ((((y187.fAbove.length : Int) : Int) - ((w_i64 (0 + 1)))).toNat + 1) (y183 ++ [y198]) (w_i64 (0 + 1))
        else
          some y183 : Option ((List Int))) fun x248 =>
        raise_raise_int__L1 a0 q4 y3 y19 n x248 (w_i64 (x97 + 1))
    else
      some (.next ())
def raise_raise_int_ (a0 : List GClass) (a1 : List UInt8) (a2 : List Int) (a3 : List UInt8) (q4 : GOwner → (List Int) → Option Int) : Option ((List Int) × Bool) :=
  Option.bind (table_Find a0 a3) fun (y3 : Int) =>
  Option.bind (if (decide (y3 < 0)) = true then
    some true
  else
    Option.bind (table_Arity a0 a1) fun (y6 : Int) =>
    if ((a2.length : Int) != (w_i64 (y6 + 1))) = true then
      some true
    else
      some ((a2.length : Int) == 0) : Option (Bool)) fun x9 =>
  if x9 = true then
    some ([], false)
  else
    Option.bind (slices_Clone_int a2) fun (y15 : List Int) =>
    Option.bind (above_Chain a0 a1) fun (y19 : (List Int)) =>
    Option.bind (raise_raise_int__L1 a0 q4 y3 y19 ((((y19.length : Int) : Int) - (0)).toNat + 1) y15 0) fun lr252 =>
    Ctl.elim lr252 (fun v => some v) fun _ =>
    some ([], false)
def raise_place (a0 : GOwner) (a1 : List Int) : Option Int :=
  if (a0.fKind == 2) = true then
    Option.bind (idx a1 0) fun (y2 : Int) =>
    some y2
  else
    Option.bind (if (a0.fKind == 3) = true then
      if (decide (a0.fN ≥ 0)) = true then
        some (decide (a0.fN < (a1.length : Int)))
      else
        some false
    else
      some false : Option (Bool)) fun x6 =>
    if x6 = true then
      Option.bind (idx a1 a0.fN) fun (y10 : Int) =>
      some y10
    else
      some 0
def raise_Places (a0 : List GClass) (a1 : List UInt8) (a2 : List Int) (a3 : List UInt8) : Option ((List Int) × Bool) :=
  Option.bind (raise_raise_int_ a0 a1 a2 a3 (fun (z1 : GOwner) (z2 : List Int) => raise_place z1 z2)) fun (y3 : (List Int) × Bool) =>
  some (y3.1, y3.2)
def frame_own (a0 : List GClass) (a1 : List GCell) (a2 : Int) (a3 : List UInt8) : Option ((List Int) × Bool) :=
  Option.bind (if (decide (a2 < 1)) = true then
    some true
  else
    some (decide (a2 > (a1.length : Int))) : Option (Bool)) fun x2 =>
  if x2 = true then
    some ([], false)
  else
    Option.bind (idx a1 (w_i64 (a2 - 1))) fun (y8 : GCell) =>
    Option.bind (table_Arity a0 y8.fClass) fun (y12 : Int) =>
    Option.bind (if (decide (y12 < 0)) = true then
      some true
    else
      some (decide (y12 ≥ 4)) : Option (Bool)) fun x15 =>
    if x15 = true then
      some ([], false)
    else
      Option.bind (cutL (y8.fOwn).l 0 (w_i64 (y12 + 1))) fun (y19 : List Int) =>
      Option.bind (raise_Places a0 y8.fClass y19 a3) fun (y21 : (List Int) × Bool) =>
      some (y21.1, y21.2)
def frame_teller (a0 : List GClass) (a1 : List GCell) (a2 : GFrame) : Option (Bool × GFrame × (List Int)) :=
  Option.bind (frame_own a0 a1 a2.fThis a2.fClass) fun (y1 : (List Int) × Bool) =>
  some (y1.2, a2, y1.1)
def frame_teller_1 (a0 : GOwner) (c0 : Bool) (c1 : GFrame) (c2 : List Int) : Option Int :=
  if (!c0) = true then
    some 0
  else
    if (a0.fKind == 1) = true then
      some c1.fThis
    else
      if (a0.fKind == 2) = true then
        Option.bind (idx c2 0) fun (y4 : Int) =>
        some y4
      else
        Option.bind (if (a0.fKind == 3) = true then
          if (decide (a0.fN ≥ 0)) = true then
            some (decide (a0.fN < (c2.length : Int)))
          else
            some false
        else
          some false : Option (Bool)) fun x8 =>
        if x8 = true then
          Option.bind (idx c2 a0.fN) fun (y12 : Int) =>
          some y12
        else
          some 0
def frame_Owner (a0 : List GClass) (a1 : List GCell) (a2 : GFrame) (a3 : GOwner) : Option Int :=
  Option.bind (frame_teller a0 a1 a2) fun (y1 : Bool × GFrame × (List Int)) =>
  Option.bind (frame_teller_1 a3 y1.1 y1.2.1 y1.2.2) fun (y3 : Int) =>
  some y3
def law38_awake  : Option Bool :=
  Option.bind (frame_Owner [({ fName := [65], fParams := [], fSuper := [], fAbove := [], fFields := [], fMethods := [], fAt := 0 } : GClass)] [({ fClass := [65], fOwn := (⟨3, 0, 0, 0⟩ : A4 Int), fFields := [], fDead := false } : GCell)] ({ fThis := 1, fClass := [65], fMethod := [], fVars := [], fPC := 0, fInto := 0 } : GFrame) ({ fKind := 2, fN := 0 } : GOwner)) fun (y1 : Int) =>
  some (y1 == 3)
def slices_IndexFunc_api_Method_L1 (a0 : List GMethod) (q1 : GMethod → Option Bool) : Nat → Int → Option (Ctl (Int) (Unit))
  | 0, _ => none
  | n + 1, x11 =>
    if (decide (x11 < (a0.length : Int))) = true then
      Option.bind (idx a0 x11) fun (y28 : GMethod) =>
      Option.bind (q1 y28) fun (y30 : Bool) =>
      if y30 = true then
        some (.stop x11)
      else
        slices_IndexFunc_api_Method_L1 a0 q1 n (w_i64 (x11 + 1))
    else
      some (.next ())
def slices_IndexFunc_api_Method (a0 : List GMethod) (q1 : GMethod → Option Bool) : Option Int :=
  Option.bind (slices_IndexFunc_api_Method_L1 a0 q1 ((((a0.length : Int) : Int) - (0)).toNat + 1) 0) fun lr34 =>
  Ctl.elim lr34 (fun v => some v) fun _ =>
  some (-1)
def frame_Method_1 (a0 : GMethod) (c0 : GFrame) : Option Bool :=
  some (a0.fName == c0.fMethod)
def frame_Method (a0 : List GClass) (a1 : GFrame) : Option (GClass × GMethod × Bool) :=
  Option.bind (table_Find a0 a1.fClass) fun (y3 : Int) =>
  if (decide (y3 < 0)) = true then
    some (({ fName := [], fParams := [], fSuper := [], fAbove := [], fFields := [], fMethods := [], fAt := 0 } : GClass), ({ fName := [], fPure := false, fRet := zGType, fParams := [], fLocals := [], fBody := [], fAt := 0 } : GMethod), false)
  else
    Option.bind (idx a0 y3) fun (y11 : GClass) =>
    Option.bind (slices_IndexFunc_api_Method y11.fMethods (fun (z13 : GMethod) => frame_Method_1 z13 a1)) fun (y14 : Int) =>
    if (decide (y14 < 0)) = true then
      some (({ fName := [], fParams := [], fSuper := [], fAbove := [], fFields := [], fMethods := [], fAt := 0 } : GClass), ({ fName := [], fPure := false, fRet := zGType, fParams := [], fLocals := [], fBody := [], fAt := 0 } : GMethod), false)
    else
      Option.bind (idx a0 y3) fun (y17 : GClass) =>
      Option.bind (idx a0 y3) fun (y19 : GClass) =>
      Option.bind (idx y19.fMethods y14) fun (y21 : GMethod) =>
      some (y17, y21, true)
def slices_IndexFunc_api_Var_L1 (a0 : List GVar) (q1 : GVar → Option Bool) : Nat → Int → Option (Ctl (Int) (Unit))
  | 0, _ => none
  | n + 1, x11 =>
    if (decide (x11 < (a0.length : Int))) = true then
      Option.bind (idx a0 x11) fun (y28 : GVar) =>
      Option.bind (q1 y28) fun (y30 : Bool) =>
      if y30 = true then
        some (.stop x11)
      else
        slices_IndexFunc_api_Var_L1 a0 q1 n (w_i64 (x11 + 1))
    else
      some (.next ())
def slices_IndexFunc_api_Var (a0 : List GVar) (q1 : GVar → Option Bool) : Option Int :=
  Option.bind (slices_IndexFunc_api_Var_L1 a0 q1 ((((a0.length : Int) : Int) - (0)).toNat + 1) 0) fun lr34 =>
  Ctl.elim lr34 (fun v => some v) fun _ =>
  some (-1)
def scope_Place_1 (a0 : GVar) (c0 : List UInt8) : Option Bool :=
  some (a0.fName == c0)
def scope_Place (a0 : GMethod) (a1 : List UInt8) : Option Int :=
  Option.bind (slices_IndexFunc_api_Var a0.fParams (fun (z4 : GVar) => scope_Place_1 z4 a1)) fun (y5 : Int) =>
  if (decide (y5 ≥ 0)) = true then
    some y5
  else
    Option.bind (slices_IndexFunc_api_Var a0.fLocals (fun (z11 : GVar) => scope_Place_1 z11 a1)) fun (y12 : Int) =>
    if (decide (y12 < 0)) = true then
      some (-1)
    else
      some (w_i64 ((a0.fParams.length : Int) + y12))
def frame_place (a0 : List GClass) (a1 : GFrame) (a2 : List UInt8) : Option Int :=
  Option.bind (frame_Method a0 a1) fun (y3 : GClass × GMethod × Bool) =>
  Option.bind (scope_Place y3.2.1 a2) fun (y7 : Int) =>
  Option.bind (if y3.2.2 = true then
    some (decide (y7 < (a1.fVars.length : Int)))
  else
    some false : Option (Bool)) fun x10 =>
  if x10 = true then
    some y7
  else
    some (-1)
def slices_Clone_api_Val (a0 : List GVal) : Option (List GVal) :=
  Option.bind (room ((([] : List GVal).length : Int) + (a0.length : Int)) 16) fun _ =>
  some a0
def frame_Set (a0 : List GClass) (a1 : GFrame) (a2 : List UInt8) (a3 : GVal) : Option (GFrame × Bool) :=
  Option.bind (frame_place a0 a1 a2) fun (y3 : Int) =>
  Option.bind (if (decide (y3 < 0)) = true then
    some true
  else
    some (a2 == [116, 104, 105, 115]) : Option (Bool)) fun x6 =>
  if x6 = true then
    some (({ fThis := 0, fClass := [], fMethod := [], fVars := [], fPC := 0, fInto := 0 } : GFrame), false)
  else
    Option.bind (slices_Clone_api_Val a1.fVars) fun (y12 : List GVal) =>
    Option.bind (idx y12 y3) fun (y14 : GVal) =>
    some (({ fThis := a1.fThis, fClass := a1.fClass, fMethod := a1.fMethod, fVars := (y12.set (y3 : Int).toNat a3), fPC := a1.fPC, fInto := a1.fInto } : GFrame), true)
def frame_Get (a0 : List GClass) (a1 : GFrame) (a2 : List UInt8) : Option (GVal × Bool) :=
  Ctl.go (if (a2 == [116, 104, 105, 115]) = true then
    obind (frame_Method a0 a1) fun (y4 : GClass × GMethod × Bool) =>
    if y4.2.2 = true then
      .stop (some (({ fRef := true, fN := a1.fThis } : GVal), true))
    else
      .next ()
  else
    .next () : Ctl (Option (GVal × Bool)) (Unit)) fun _ =>
  Option.bind (frame_place a0 a1 a2) fun (y9 : Int) =>
  if (decide (y9 < 0)) = true then
    some (({ fRef := false, fN := 0 } : GVal), false)
  else
    Option.bind (idx a1.fVars y9) fun (y12 : GVal) =>
    some (y12, true)
def ref13_Find_L1 (a0 : List GClass) (a1 : List UInt8) : Nat → Int → Option (Ctl (Int) (Unit))
  | 0, _ => none
  | n + 1, x7 =>
    if (decide (x7 < (a0.length : Int))) = true then
      Option.bind (idx a0 x7) fun (y18 : GClass) =>
      if (y18.fName == a1) = true then
        some (.stop x7)
      else
        ref13_Find_L1 a0 a1 n (w_i64 (x7 + 1))
    else
      some (.next ())
def ref13_Find (a0 : List GClass) (a1 : List UInt8) : Option Int :=
  Option.bind (ref13_Find_L1 a0 a1 ((((a0.length : Int) : Int) - (0)).toNat + 1) 0) fun lr22 =>
  Ctl.elim lr22 (fun v => some v) fun _ =>
  some (-1)
def ref15_This_L1 (a0 : GClass) : Nat → (List GOwner) → Int → Option ((List GOwner))
  | 0, _, _ => none
  | n + 1, x6, x7 =>
    if (decide (x7 < (a0.fParams.length : Int))) = true then
      Option.bind (room ((x6.length : Int) + ([({ fKind := 3, fN := w_i64 (x7 + 1) } : GOwner)].length : Int)) 16) fun (u18 : Unit) =>
      ref15_This_L1 a0 n (x6 ++ [({ fKind := 3, fN := w_i64 (x7 + 1) } : GOwner)]) (w_i64 (x7 + 1))
    else
      some x6
def ref15_This (a0 : GClass) : Option (List GOwner) :=
  Option.bind (ref15_This_L1 a0 ((((a0.fParams.length : Int) : Int) - (0)).toNat + 1) [({ fKind := 2, fN := 0 } : GOwner)] 0) fun x22 =>
  some x22
def ref18_This_L1 (y3 : (List GOwner)) : Nat → GType → Int → Option (GType)
  | 0, _, _ => none
  | n + 1, x10, x11 =>
    if (decide (x11 ≤ x10.fN)) = true then
      Option.bind (idx y3 x11) fun (y28 : GOwner) =>
      Option.bind (idx (x10.fOwn).l x11) fun (y30 : GOwner) =>
      ref18_This_L1 y3 n ({ x10 with fOwn := (A4.set x10.fOwn (x11 : Int).toNat y28) } : GType) (w_i64 (x11 + 1))
    else
      some x10
def ref18_This (a0 : GClass) : Option GType :=
  Option.bind (ref15_This a0) fun (y3 : (List GOwner)) =>
  Option.bind (ref18_This_L1 y3 5 ({ fKind := 2, fClass := a0.fName, fN := (if (a0.fParams.length : Int) < 3 then (a0.fParams.length : Int) else 3), fOwn := (⟨zGOwner, zGOwner, zGOwner, zGOwner⟩ : A4 GOwner) } : GType) 0) fun x34 =>
  some x34
def kind_own (a0 : GType) : Option (List GOwner) :=
  Option.bind (cutL (a0.fOwn).l 0 (w_i64 ((if (if 3 < a0.fN then 3 else a0.fN) > 0 then (if 3 < a0.fN then 3 else a0.fN) else 0) + 1))) fun (y1 : List GOwner) =>
  some y1
def slices_Clone_api_Owner (a0 : List GOwner) : Option (List GOwner) :=
  Option.bind (room ((([] : List GOwner).length : Int) + (a0.length : Int)) 16) fun _ =>
  some a0
def kind_Owners (a0 : GType) : Option (List GOwner) :=
  if (a0.fKind != 2) = true then
    some []
  else
    Option.bind (kind_own a0) fun (y2 : (List GOwner)) =>
    Option.bind (slices_Clone_api_Owner y2) fun (y4 : List GOwner) =>
    some y4
def frame_Owners_L1 (a4 : Int) (y3 : Bool × GFrame × (List Int)) (y7 : (List GOwner)) : Nat → (A4 Int) → Int → Option ((A4 Int))
  | 0, _, _ => none
  | n + 1, x20, x21 =>
    if (decide (x21 < (y7.length : Int))) = true then
      Option.bind (Option.bind (idx y7 x21) fun (y42 : GOwner) =>
      if (y42.fKind == 6) = true then
        Option.bind (idx (x20).l x21) fun (y45 : Int) =>
        some (A4.set x20 (x21 : Int).toNat a4)
      else
        Option.bind (frame_teller_1 y42 y3.1 y3.2.1 y3.2.2) fun (y47 : Int) =>
        Option.bind (idx (x20).l x21) fun (y49 : Int) =>
        some (A4.set x20 (x21 : Int).toNat y47) : Option ((A4 Int))) fun x51 =>
      frame_Owners_L1 a4 y3 y7 n x51 (w_i64 (x21 + 1))
    else
      some x20
def frame_Owners (a0 : List GClass) (a1 : List GCell) (a2 : GFrame) (a3 : GType) (a4 : Int) : Option (A4 Int) :=
  Option.bind (frame_teller a0 a1 a2) fun (y3 : Bool × GFrame × (List Int)) =>
  Option.bind (kind_Owners a3) fun (y7 : (List GOwner)) =>
  Option.bind (frame_Owners_L1 a4 y3 y7 ((((y7.length : Int) : Int) - (0)).toNat + 1) (⟨0, 0, 0, 0⟩ : A4 Int) 0) fun x56 =>
  some x56
def frame_Fits_L1 (y3 : (List Int) × Bool) (y8 : Bool × GFrame × (List Int)) (y12 : (List GOwner)) : Nat → Int → Option (Ctl (Bool) (Unit))
  | 0, _ => none
  | n + 1, x35 =>
    if (decide (x35 < (y12.length : Int))) = true then
      Ctl.go (obind (idx y12 x35) fun (y61 : GOwner) =>
      obind (if (y61.fKind == 1) = true then
        some (y61.fKind == 1)
      else
        if (y61.fKind == 2) = true then
          some (y61.fKind == 2)
        else
          if (y61.fKind == 3) = true then
            some (y61.fKind == 3)
          else
            some (y61.fKind == 4) : Option (Bool)) fun x66 =>
      if x66 = true then
        obind (if (decide (x35 ≥ (y3.1.length : Int))) = true then
          some true
        else
          Option.bind (idx y3.1 x35) fun (y71 : Int) =>
          Option.bind (frame_teller_1 y61 y8.1 y8.2.1 y8.2.2) fun (y73 : Int) =>
          some (y71 != y73) : Option (Bool)) fun x75 =>
        if x75 = true then
          .stop (some (.stop false))
        else
          .next ()
      else
        .next () : Ctl (Option (Ctl (Bool) (Unit))) (Unit)) fun _ =>
      frame_Fits_L1 y3 y8 y12 n (w_i64 (x35 + 1))
    else
      some (.next ())
def frame_Fits (a0 : List GClass) (a1 : List GCell) (a2 : GFrame) (a3 : GType) (a4 : Int) : Option Bool :=
  Option.bind (frame_own a0 a1 a4 a3.fClass) fun (y3 : (List Int) × Bool) =>
  if (!y3.2) = true then
    some false
  else
    Option.bind (frame_teller a0 a1 a2) fun (y8 : Bool × GFrame × (List Int)) =>
    Option.bind (kind_Owners a3) fun (y12 : (List GOwner)) =>
    Option.bind (frame_Fits_L1 y3 y8 y12 ((((y12.length : Int) : Int) - (0)).toNat + 1) 0) fun lr80 =>
    Ctl.elim lr80 (fun v => some v) fun _ =>
    some true
def law38_FrameSet_L1 (a1 : GWorld_law38) (y58 : GType) (y62 : (A4 Int)) : Nat → Int → Option (Ctl (Bool) (Unit))
  | 0, _ => none
  | n + 1, x70 =>
    if (decide (x70 ≤ y58.fN)) = true then
      Option.bind (idx (y62).l x70) fun (y93 : Int) =>
      Option.bind (idx a1.fL (w_i64 (a1.fF.fThis - 1))) fun (y95 : GCell) =>
      Option.bind (idx (y95.fOwn).l x70) fun (y97 : Int) =>
      if (y93 != y97) = true then
        some (.stop false)
      else
        law38_FrameSet_L1 a1 y58 y62 n (w_i64 (x70 + 1))
    else
      some (.next ())
def law38_FrameSet (a0 : List GClass) (a1 : GWorld_law38) (a2 : A2 GPut_law38) : Option Bool :=
  Option.bind (law38_great a0 a1) fun (y3 : Bool) =>
  if y3 = true then
    Option.bind law38_awake fun (y6 : Bool) =>
    some y6
  else
    Option.bind (frame_Set a0 a1.fF a2.a0.fName a2.a0.fV) fun (y10 : GFrame × Bool) =>
    Ctl.go (if y10.2 = true then
      obind (frame_Get a0 y10.1 a2.a0.fName) fun (y15 : GVal × Bool) =>
      obind (frame_Get a0 a1.fF a2.a1.fName) fun (y19 : GVal × Bool) =>
      obind (frame_Get a0 y10.1 a2.a1.fName) fun (y23 : GVal × Bool) =>
      obind (if (!y15.2) = true then
        some true
      else
        if (!(bGVal y15.1 a2.a0.fV)) = true then
          some true
        else
          if (!(y19.2 == y23.2)) = true then
            some true
          else
            if (!(a2.a0.fName == a2.a1.fName)) = true then
              if (!(bGVal y19.1 y23.1)) = true then
                some true
              else
                some ((y10.1.fVars.length : Int) != (a1.fF.fVars.length : Int))
            else
              some ((y10.1.fVars.length : Int) != (a1.fF.fVars.length : Int)) : Option (Bool)) fun x30 =>
      if x30 = true then
        .stop (some false)
      else
        .next ()
    else
      .next () : Ctl (Option Bool) (Unit)) fun _ =>
    Option.bind (ref13_Find a0 a1.fF.fClass) fun (y36 : Int) =>
    Option.bind (if (decide (y36 < 0)) = true then
      some true
    else
      if (decide (a1.fF.fThis < 1)) = true then
        some true
      else
        if (decide (a1.fF.fThis > (a1.fL.length : Int))) = true then
          some true
        else
          Option.bind (idx a1.fL (w_i64 (a1.fF.fThis - 1))) fun (y41 : GCell) =>
          if (!(y41.fClass == a1.fF.fClass)) = true then
            some true
          else
            Option.bind (idx a0 y36) fun (y44 : GClass) =>
            some (decide ((y44.fParams.length : Int) > 3)) : Option (Bool)) fun x46 =>
    if x46 = true then
      Option.bind law38_awake fun (y50 : Bool) =>
      some y50
    else
      Option.bind (idx a0 y36) fun (y56 : GClass) =>
      Option.bind (ref18_This y56) fun (y58 : GType) =>
      Option.bind (frame_Owners a0 a1.fL a1.fF y58 0) fun (y62 : (A4 Int)) =>
      Option.bind (law38_FrameSet_L1 a1 y58 y62 6 0) fun lr101 =>
      Ctl.elim lr101 (fun v => some v) fun _ =>
      Option.bind (frame_Fits a0 a1.fL a1.fF y58 a1.fF.fThis) fun (y103 : Bool) =>
      if y103 = true then
        Option.bind law38_awake fun (y106 : Bool) =>
        some y106
      else
        some false
end
end Go.Proofs.Ytelohaajmagpbaa
