/- A part of the proof that the law CalcAll gives true for every input. -/
import Derived.Test.YtnnphkfiookbnaaDoorCalcAllA3
import Derived.Test.YtnnphkfiookbnaaDoorCalcAllX
/- The types and the plain functions. -/
namespace Go.Proofs.YtnnphkfiookbnaaDoor
open Go.RowKit Go.Abs
noncomputable section
structure GOwner where
  fKind : Int
  fN : Int
  deriving DecidableEq
abbrev zGOwner : GOwner := ({ fKind := 0, fN := 0 } : GOwner)
abbrev eGOwner (x : GOwner) : List PV := [.int .i64 x.fKind, .int .i64 x.fN]
structure GType where
  fKind : Int
  fClass : List UInt8
  fN : Int
  fOwn : A4 GOwner
  deriving DecidableEq
abbrev zGType : GType := ({ fKind := 0, fClass := [], fN := 0, fOwn := (⟨zGOwner, zGOwner, zGOwner, zGOwner⟩ : A4 GOwner) } : GType)
abbrev eGType (x : GType) : List PV := [.int .i64 x.fKind, .str x.fClass, .int .i64 x.fN, .int .i64 x.fOwn.a0.fKind, .int .i64 x.fOwn.a0.fN, .int .i64 x.fOwn.a1.fKind, .int .i64 x.fOwn.a1.fN, .int .i64 x.fOwn.a2.fKind, .int .i64 x.fOwn.a2.fN, .int .i64 x.fOwn.a3.fKind, .int .i64 x.fOwn.a3.fN]
structure GVar where
  fName : List UInt8
  fType : GType
  fAt : Int
  deriving DecidableEq
abbrev zGVar : GVar := ({ fName := [], fType := zGType, fAt := 0 } : GVar)
abbrev eGVar (x : GVar) : List PV := [.str x.fName, .int .i64 x.fType.fKind, .str x.fType.fClass, .int .i64 x.fType.fN, .int .i64 x.fType.fOwn.a0.fKind, .int .i64 x.fType.fOwn.a0.fN, .int .i64 x.fType.fOwn.a1.fKind, .int .i64 x.fType.fOwn.a1.fN, .int .i64 x.fType.fOwn.a2.fKind, .int .i64 x.fType.fOwn.a2.fN, .int .i64 x.fType.fOwn.a3.fKind, .int .i64 x.fType.fOwn.a3.fN, .int .i64 x.fAt]
structure GExpr where
  fKind : Int
  fNum : Int
  fName : List UInt8
  fKids : List GExpr
abbrev zGExpr : GExpr := ({ fKind := 0, fNum := 0, fName := [], fKids := [] } : GExpr)
mutual
def rGExpr : GExpr → List PV
  | ⟨z0, z1, z2, z3⟩ => [.int .i64 z0, .int .i64 z1, .str z2, .vs 4 (eLGExpr z3)]
def eLGExpr : List GExpr → List (List PV)
  | [] => []
  | x :: l => rGExpr x :: eLGExpr l
end
abbrev eGExpr (x : GExpr) : List PV := [.int .i64 x.fKind, .int .i64 x.fNum, .str x.fName, .vs 4 (eLGExpr x.fKids)]
theorem rGExpr_eq (x : GExpr) : rGExpr x = eGExpr x := by cases x; simp only [rGExpr]
theorem eLGExpr_map : ∀ l : List GExpr, eLGExpr l = l.map eGExpr
  | [] => by simp only [eLGExpr, List.map_nil]
  | x :: l => by simp only [eLGExpr, List.map_cons, rGExpr_eq, eLGExpr_map l]
mutual
def mGExpr : GExpr → Nat
  | ⟨_, _, _, z3⟩ => 1 + mLGExpr z3
def mLGExpr : List GExpr → Nat
  | [] => 0
  | x :: l => mGExpr x + mLGExpr l
end
structure GStmt where
  fKind : Int
  fX : List UInt8
  fY : List UInt8
  fName : List UInt8
  fType : GType
  fE : GExpr
  fArgs : List GExpr
  fBody : List GStmt
  fElse : List GStmt
  fAt : Int
abbrev zGStmt : GStmt := ({ fKind := 0, fX := [], fY := [], fName := [], fType := zGType, fE := zGExpr, fArgs := [], fBody := [], fElse := [], fAt := 0 } : GStmt)
mutual
def rGStmt : GStmt → List PV
  | ⟨z0, z1, z2, z3, z4, z5, z6, z7, z8, z9⟩ => [.int .i64 z0, .str z1, .str z2, .str z3, .int .i64 z4.fKind, .str z4.fClass, .int .i64 z4.fN, .int .i64 z4.fOwn.a0.fKind, .int .i64 z4.fOwn.a0.fN, .int .i64 z4.fOwn.a1.fKind, .int .i64 z4.fOwn.a1.fN, .int .i64 z4.fOwn.a2.fKind, .int .i64 z4.fOwn.a2.fN, .int .i64 z4.fOwn.a3.fKind, .int .i64 z4.fOwn.a3.fN, .int .i64 z5.fKind, .int .i64 z5.fNum, .str z5.fName, .vs 4 (eLGExpr z5.fKids), .vs 4 (eLGExpr z6), .vs 23 (eLGStmt z7), .vs 23 (eLGStmt z8), .int .i64 z9]
def eLGStmt : List GStmt → List (List PV)
  | [] => []
  | x :: l => rGStmt x :: eLGStmt l
end
abbrev eGStmt (x : GStmt) : List PV := [.int .i64 x.fKind, .str x.fX, .str x.fY, .str x.fName, .int .i64 x.fType.fKind, .str x.fType.fClass, .int .i64 x.fType.fN, .int .i64 x.fType.fOwn.a0.fKind, .int .i64 x.fType.fOwn.a0.fN, .int .i64 x.fType.fOwn.a1.fKind, .int .i64 x.fType.fOwn.a1.fN, .int .i64 x.fType.fOwn.a2.fKind, .int .i64 x.fType.fOwn.a2.fN, .int .i64 x.fType.fOwn.a3.fKind, .int .i64 x.fType.fOwn.a3.fN, .int .i64 x.fE.fKind, .int .i64 x.fE.fNum, .str x.fE.fName, .vs 4 (eLGExpr x.fE.fKids), .vs 4 (eLGExpr x.fArgs), .vs 23 (eLGStmt x.fBody), .vs 23 (eLGStmt x.fElse), .int .i64 x.fAt]
theorem rGStmt_eq (x : GStmt) : rGStmt x = eGStmt x := by cases x; simp only [rGStmt]
theorem eLGStmt_map : ∀ l : List GStmt, eLGStmt l = l.map eGStmt
  | [] => by simp only [eLGStmt, List.map_nil]
  | x :: l => by simp only [eLGStmt, List.map_cons, rGStmt_eq, eLGStmt_map l]
mutual
def mGStmt : GStmt → Nat
  | ⟨_, _, _, _, _, z5, z6, z7, z8, _⟩ => 1 + mGExpr z5 + mLGExpr z6 + mLGStmt z7 + mLGStmt z8
def mLGStmt : List GStmt → Nat
  | [] => 0
  | x :: l => mGStmt x + mLGStmt l
end
structure GMethod where
  fName : List UInt8
  fPure : Bool
  fRet : GType
  fParams : List GVar
  fLocals : List GVar
  fBody : List GStmt
  fAt : Int
abbrev zGMethod : GMethod := ({ fName := [], fPure := false, fRet := zGType, fParams := [], fLocals := [], fBody := [], fAt := 0 } : GMethod)
def mGMethod : GMethod → Nat
  | ⟨_, _, _, _, _, z5, _⟩ => 1 + mLGStmt z5
def mLGMethod : List GMethod → Nat
  | [] => 0
  | x :: l => mGMethod x + mLGMethod l
abbrev eGMethod (x : GMethod) : List PV := [.str x.fName, .bool x.fPure, .int .i64 x.fRet.fKind, .str x.fRet.fClass, .int .i64 x.fRet.fN, .int .i64 x.fRet.fOwn.a0.fKind, .int .i64 x.fRet.fOwn.a0.fN, .int .i64 x.fRet.fOwn.a1.fKind, .int .i64 x.fRet.fOwn.a1.fN, .int .i64 x.fRet.fOwn.a2.fKind, .int .i64 x.fRet.fOwn.a2.fN, .int .i64 x.fRet.fOwn.a3.fKind, .int .i64 x.fRet.fOwn.a3.fN, .vs 13 (List.map eGVar x.fParams), .vs 13 (List.map eGVar x.fLocals), .vs 23 (eLGStmt x.fBody), .int .i64 x.fAt]
structure GClass where
  fName : List UInt8
  fParams : List (List UInt8)
  fSuper : List UInt8
  fAbove : List GOwner
  fFields : List GVar
  fMethods : List GMethod
  fAt : Int
abbrev zGClass : GClass := ({ fName := [], fParams := [], fSuper := [], fAbove := [], fFields := [], fMethods := [], fAt := 0 } : GClass)
def mGClass : GClass → Nat
  | ⟨_, _, _, _, _, z5, _⟩ => 1 + mLGMethod z5
def mLGClass : List GClass → Nat
  | [] => 0
  | x :: l => mGClass x + mLGClass l
abbrev eGClass (x : GClass) : List PV := [.str x.fName, .vs 1 (List.map eS x.fParams), .str x.fSuper, .vs 2 (List.map eGOwner x.fAbove), .vs 13 (List.map eGVar x.fFields), .vs 17 (List.map eGMethod x.fMethods), .int .i64 x.fAt]
structure GVal where
  fRef : Bool
  fN : Int
  deriving DecidableEq
abbrev zGVal : GVal := ({ fRef := false, fN := 0 } : GVal)
abbrev eGVal (x : GVal) : List PV := [.bool x.fRef, .int .i64 x.fN]
structure GFrame where
  fThis : Int
  fClass : List UInt8
  fMethod : List UInt8
  fVars : List GVal
  fPC : Int
  fInto : Int
  deriving DecidableEq
abbrev zGFrame : GFrame := ({ fThis := 0, fClass := [], fMethod := [], fVars := [], fPC := 0, fInto := 0 } : GFrame)
abbrev eGFrame (x : GFrame) : List PV := [.int .i64 x.fThis, .str x.fClass, .str x.fMethod, .vs 2 (List.map eGVal x.fVars), .int .i64 x.fPC, .int .i64 x.fInto]
structure GHere_law39 where
  fF : GFrame
  fIn : List Int
  deriving DecidableEq
abbrev zGHere_law39 : GHere_law39 := ({ fF := zGFrame, fIn := [] } : GHere_law39)
abbrev eGHere_law39 (x : GHere_law39) : List PV := [.int .i64 x.fF.fThis, .str x.fF.fClass, .str x.fF.fMethod, .vs 2 (List.map eGVal x.fF.fVars), .int .i64 x.fF.fPC, .int .i64 x.fF.fInto, .vs 1 (List.map eI x.fIn)]
structure Gcounter_calc where
  fp : List GClass
  ff : GFrame
  fin : List Int
  fbad : Bool
abbrev zGcounter_calc : Gcounter_calc := ({ fp := [], ff := zGFrame, fin := [], fbad := false } : Gcounter_calc)
def mGcounter_calc : Gcounter_calc → Nat
  | ⟨z0, _, _, _⟩ => 1 + mLGClass z0
def mLGcounter_calc : List Gcounter_calc → Nat
  | [] => 0
  | x :: l => mGcounter_calc x + mLGcounter_calc l
abbrev eGcounter_calc (x : Gcounter_calc) : List PV := [.vs 7 (List.map eGClass x.fp), .int .i64 x.ff.fThis, .str x.ff.fClass, .str x.ff.fMethod, .vs 2 (List.map eGVal x.ff.fVars), .int .i64 x.ff.fPC, .int .i64 x.ff.fInto, .vs 1 (List.map eI x.fin), .bool x.fbad]
structure GGot_ref39 where
  fV : GVal
  fLeft : List Int
  fEnd : Int
  deriving DecidableEq
abbrev zGGot_ref39 : GGot_ref39 := ({ fV := zGVal, fLeft := [], fEnd := 0 } : GGot_ref39)
abbrev eGGot_ref39 (x : GGot_ref39) : List PV := [.bool x.fV.fRef, .int .i64 x.fV.fN, .vs 1 (List.map eI x.fLeft), .int .i64 x.fEnd]
def bGVal (a b : GVal) : Bool := (a.fRef == b.fRef && (a.fN == b.fN && true))
abbrev Clo0 := Go.Abs.Clo globs_Tryd Tryd.prog (Int × Int) Int (fun z : Int × Int => ([.int .i64 z.1, .int .i64 z.2] : List PV)) (fun r : Int => ([.p (.int .i64 r)] : List Res))
set_option maxRecDepth 100000
set_option maxHeartbeats 4000000
def ref10_uniques_L1 (a0 : GMethod) : Nat → Int → Int → Option (Int)
  | 0, _, _ => none
  | n + 1, x10, x11 =>
    if (decide (x11 < (a0.fParams.length : Int))) = true then
      Option.bind (Option.bind (idx a0.fParams x11) fun (y26 : GVar) =>
      if (y26.fType.fOwn.a0.fKind == 6) = true then
        some (w_i64 (x10 + 1))
      else
        some x10 : Option (Int)) fun x29 =>
      ref10_uniques_L1 a0 n x29 (w_i64 (x11 + 1))
    else
      some x10
def ref10_uniques_L2 (a0 : GMethod) : Nat → Int → Int → Option (Int)
  | 0, _, _ => none
  | n + 1, x45, x46 =>
    if (decide (x46 < (a0.fLocals.length : Int))) = true then
      Option.bind (Option.bind (idx a0.fLocals x46) fun (y61 : GVar) =>
      if (y61.fType.fOwn.a0.fKind == 6) = true then
        some (w_i64 (x45 + 1))
      else
        some x45 : Option (Int)) fun x64 =>
      ref10_uniques_L2 a0 n x64 (w_i64 (x46 + 1))
    else
      some x45
def ref10_uniques (a0 : GMethod) : Option Int :=
  Option.bind (ref10_uniques_L1 a0 ((((a0.fParams.length : Int) : Int) - (0)).toNat + 1) 0 0) fun x34 =>
  Option.bind (ref10_uniques_L2 a0 ((((a0.fLocals.length : Int) : Int) - (0)).toNat + 1) x34 0) fun x69 =>
  some x69
def ref10_kids_L1 (a0 : GExpr) (a1 : Int) (ref10_kids_rec : GExpr → Int → Option Bool) : Nat → Int → Option (Ctl (Bool) (Unit))
  | 0, _ => none
  | n + 1, x16 =>
    if (decide (x16 < (a0.fKids.length : Int))) = true then
      Option.bind (idx a0.fKids x16) fun (y33 : GExpr) =>
      Option.bind (ref10_kids_rec y33 (w_i64 (a1 - 1))) fun (y35 : Bool) =>
      if y35 = true then
        some (.stop true)
      else
        ref10_kids_L1 a0 a1 ref10_kids_rec n (w_i64 (x16 + 1))
    else
      some (.next ())
def ref10_kids : Nat → GExpr → Int → Option Bool
  | 0, _, _ => none
  | n + 1, a0, a1 =>
    Option.bind (if (decide (a1 < 0)) = true then
      some true
    else
      some (decide ((a0.fKids.length : Int) > 4)) : Option (Bool)) fun x2 =>
    if x2 = true then
      some true
    else
      Option.bind (ref10_kids_L1 a0 a1 (ref10_kids n) ((((a0.fKids.length : Int) : Int) - (0)).toNat + 1) 0) fun lr39 =>
      Ctl.elim lr39 (fun v => some v) fun _ =>
      some false
def ref10_much_L1 (a0 : GStmt) : Nat → Int → Option (Ctl (Bool) (Unit))
  | 0, _ => none
  | n + 1, x21 =>
    if (decide (x21 < (a0.fArgs.length : Int))) = true then
      Option.bind (idx a0.fArgs x21) fun (y38 : GExpr) =>
      Option.bind (ref10_kids (mGExpr y38 + 1) y38 25) fun (y40 : Bool) =>
      if y40 = true then
        some (.stop true)
      else
        ref10_much_L1 a0 n (w_i64 (x21 + 1))
    else
      some (.next ())
def ref10_much_L2 (a0 : GStmt) (a1 : Int) (ref10_much_rec : GStmt → Int → Option Bool) : Nat → Int → Option (Ctl (Bool) (Unit))
  | 0, _ => none
  | n + 1, x56 =>
    if (decide (x56 < (a0.fBody.length : Int))) = true then
      Option.bind (idx a0.fBody x56) fun (y73 : GStmt) =>
      Option.bind (ref10_much_rec y73 (w_i64 (a1 - 1))) fun (y75 : Bool) =>
      if y75 = true then
        some (.stop true)
      else
        ref10_much_L2 a0 a1 ref10_much_rec n (w_i64 (x56 + 1))
    else
      some (.next ())
def ref10_much_L3 (a0 : GStmt) (a1 : Int) (ref10_much_rec : GStmt → Int → Option Bool) : Nat → Int → Option (Ctl (Bool) (Unit))
  | 0, _ => none
  | n + 1, x91 =>
    if (decide (x91 < (a0.fElse.length : Int))) = true then
      Option.bind (idx a0.fElse x91) fun (y108 : GStmt) =>
      Option.bind (ref10_much_rec y108 (w_i64 (a1 - 1))) fun (y110 : Bool) =>
      if y110 = true then
        some (.stop true)
      else
        ref10_much_L3 a0 a1 ref10_much_rec n (w_i64 (x91 + 1))
    else
      some (.next ())
def ref10_much : Nat → GStmt → Int → Option Bool
  | 0, _, _ => none
  | n + 1, a0, a1 =>
    Option.bind (if (decide (a1 < 0)) = true then
      some true
    else
      if (decide ((a0.fBody.length : Int) > 500)) = true then
        some true
      else
        if (decide ((a0.fElse.length : Int) > 500)) = true then
          some true
        else
          if (decide ((a0.fArgs.length : Int) > 20)) = true then
            some true
          else
            Option.bind (ref10_kids (mGExpr a0.fE + 1) a0.fE 25) fun (y5 : Bool) =>
            some y5 : Option (Bool)) fun x7 =>
    if x7 = true then
      some true
    else
      Option.bind (ref10_much_L1 a0 ((((a0.fArgs.length : Int) : Int) - (0)).toNat + 1) 0) fun lr44 =>
      Ctl.elim lr44 (fun v => some v) fun _ =>
      Option.bind (ref10_much_L2 a0 a1 (ref10_much n) ((((a0.fBody.length : Int) : Int) - (0)).toNat + 1) 0) fun lr79 =>
      Ctl.elim lr79 (fun v => some v) fun _ =>
      Option.bind (ref10_much_L3 a0 a1 (ref10_much n) ((((a0.fElse.length : Int) : Int) - (0)).toNat + 1) 0) fun lr114 =>
      Ctl.elim lr114 (fun v => some v) fun _ =>
      some false
def ref08_Size_L1 (a0 : GStmt) (ref08_Size_rec : GStmt → Option Int) : Nat → Int → Int → Option (Int)
  | 0, _, _ => none
  | n + 1, x10, x11 =>
    if (decide (x11 < (a0.fBody.length : Int))) = true then
      Option.bind (idx a0.fBody x11) fun (y28 : GStmt) =>
      Option.bind (ref08_Size_rec y28) fun (y30 : Int) =>
      ref08_Size_L1 a0 ref08_Size_rec n (w_i64 (x10 + y30)) (w_i64 (x11 + 1))
    else
      some x10
def ref08_Size_L2 (a0 : GStmt) (ref08_Size_rec : GStmt → Option Int) : Nat → Int → Int → Option (Int)
  | 0, _, _ => none
  | n + 1, x45, x46 =>
    if (decide (x46 < (a0.fElse.length : Int))) = true then
      Option.bind (idx a0.fElse x46) fun (y63 : GStmt) =>
      Option.bind (ref08_Size_rec y63) fun (y65 : Int) =>
      ref08_Size_L2 a0 ref08_Size_rec n (w_i64 (x45 + y65)) (w_i64 (x46 + 1))
    else
      some x45
def ref08_Size : Nat → GStmt → Option Int
  | 0, _ => none
  | n + 1, a0 =>
    Option.bind (ref08_Size_L1 a0 (ref08_Size n) ((((a0.fBody.length : Int) : Int) - (0)).toNat + 1) 1 0) fun x34 =>
    Option.bind (ref08_Size_L2 a0 (ref08_Size n) ((((a0.fElse.length : Int) : Int) - (0)).toNat + 1) x34 0) fun x69 =>
    some x69
def ref10_Heavy_L3 (y685 : GMethod) : Nat → Int → Int → Option (Ctl (Bool) (Int))
  | 0, _, _ => none
  | n + 1, x714, x715 =>
    if (decide (x715 < (y685.fBody.length : Int))) = true then
      Option.bind (if (decide (x714 > 500)) = true then
        some true
      else
        Option.bind (idx y685.fBody x715) fun (y738 : GStmt) =>
        Option.bind (ref10_much (mGStmt y738 + 1) y738 25) fun (y740 : Bool) =>
        some y740 : Option (Bool)) fun x742 =>
      if x742 = true then
        some (.stop true)
      else
        Option.bind (idx y685.fBody x715) fun (y750 : GStmt) =>
        Option.bind (ref08_Size (mGStmt y750 + 1) y750) fun (y752 : Int) =>
        ref10_Heavy_L3 y685 n (w_i64 (x714 + y752)) (w_i64 (x715 + 1))
    else
      some (.next x714)
def ref10_Heavy_L2 (y514 : GClass) : Nat → Int → Int → Option (Ctl (Bool) (Int))
  | 0, _, _ => none
  | n + 1, x601, x602 =>
    if (decide (x602 < (y514.fMethods.length : Int))) = true then
      Option.bind (idx y514.fMethods x602) fun (y685 : GMethod) =>
      Option.bind (if (decide ((y685.fParams.length : Int) > 40)) = true then
        some true
      else
        if (decide ((y685.fLocals.length : Int) > 40)) = true then
          some true
        else
          if (decide ((y685.fBody.length : Int) > 500)) = true then
            some true
          else
            Option.bind (ref10_uniques y685) fun (y690 : Int) =>
            some (decide (y690 > 8)) : Option (Bool)) fun x692 =>
      if x692 = true then
        some (.stop true)
      else
        Option.bind (ref10_Heavy_L3 y685 ((((y685.fBody.length : Int) : Int) - (0)).toNat + 1) x601 0) fun lr757 =>
        Ctl.elim lr757 (fun v => some (.stop v)) fun x756 =>
        ref10_Heavy_L2 y514 n x756 (w_i64 (x602 + 1))
    else
      some (.next x601)
def ref10_Heavy_L1 (a0 : List GClass) : Nat → Int → Int → Option (Ctl (Bool) (Int))
  | 0, _, _ => none
  | n + 1, x254, x255 =>
    if (decide (x255 < (a0.length : Int))) = true then
      Option.bind (idx a0 x255) fun (y514 : GClass) =>
      Option.bind (if (decide ((a0.length : Int) > 30)) = true then
        some true
      else
        if (decide ((y514.fParams.length : Int) > 20)) = true then
          some true
        else
          if (decide ((y514.fAbove.length : Int) > 20)) = true then
            some true
          else
            if (decide ((y514.fFields.length : Int) > 40)) = true then
              some true
            else
              some (decide ((y514.fMethods.length : Int) > 40)) : Option (Bool)) fun x520 =>
      if x520 = true then
        some (.stop true)
      else
        Option.bind (ref10_Heavy_L2 y514 ((((y514.fMethods.length : Int) : Int) - (0)).toNat + 1) x254 0) fun lr762 =>
        Ctl.elim lr762 (fun v => some (.stop v)) fun x761 =>
        ref10_Heavy_L1 a0 n x761 (w_i64 (x255 + 1))
    else
      some (.next x254)
def ref10_Heavy (a0 : List GClass) : Option Bool :=
  Option.bind (ref10_Heavy_L1 a0 ((((a0.length : Int) : Int) - (0)).toNat + 1) 0 0) fun lr767 =>
  Ctl.elim lr767 (fun v => some v) fun x766 =>
  some (decide (x766 > 500))
def ref06_Size_L1 (a0 : GExpr) (ref06_Size_rec : GExpr → Option Int) : Nat → Int → Int → Option (Int)
  | 0, _, _ => none
  | n + 1, x14, x15 =>
    Option.bind (if (decide (x15 < (a0.fKids.length : Int))) = true then
      some (decide (x14 < 1000))
    else
      some false : Option (Bool)) fun x32 =>
    if x32 = true then
      Option.bind (idx a0.fKids x15) fun (y40 : GExpr) =>
      Option.bind (ref06_Size_rec y40) fun (y42 : Int) =>
      ref06_Size_L1 a0 ref06_Size_rec n (w_i64 (x14 + y42)) (w_i64 (x15 + 1))
    else
      some x14
def ref06_Size : Nat → GExpr → Option Int
  | 0, _ => none
  | n + 1, a0 =>
    Option.bind (ref06_Size_L1 a0 (ref06_Size n) (a0.fKids.length + 1) 1 0) fun x46 =>
    some x46
def law39_great (a0 : List GClass) (a1 : GHere_law39) (a2 : GExpr) : Option Bool :=
  Option.bind (ref10_Heavy a0) fun (y1 : Bool) =>
  if y1 = true then
    some true
  else
    if (decide ((a1.fF.fVars.length : Int) > 100)) = true then
      some true
    else
      if (decide ((a1.fIn.length : Int) > 300)) = true then
        some true
      else
        Option.bind (ref06_Size (mGExpr a2 + 1) a2) fun (y6 : Int) =>
        some (decide (y6 > 200))
def slices_IndexFunc_api_Expr_L1 (a0 : List GExpr) (q1 : GExpr → Option Bool) : Nat → Int → Option (Ctl (Int) (Unit))
  | 0, _ => none
  | n + 1, x11 =>
    if (decide (x11 < (a0.length : Int))) = true then
      Option.bind (idx a0 x11) fun (y28 : GExpr) =>
      Option.bind (q1 y28) fun (y30 : Bool) =>
      if y30 = true then
        some (.stop x11)
      else
        slices_IndexFunc_api_Expr_L1 a0 q1 n (w_i64 (x11 + 1))
    else
      some (.next ())
def slices_IndexFunc_api_Expr (a0 : List GExpr) (q1 : GExpr → Option Bool) : Option Int :=
  Option.bind (slices_IndexFunc_api_Expr_L1 a0 q1 ((((a0.length : Int) : Int) - (0)).toNat + 1) 0) fun lr34 =>
  Ctl.elim lr34 (fun v => some v) fun _ =>
  some (-1)
def slices_ContainsFunc_api_Expr (a0 : List GExpr) (q1 : GExpr → Option Bool) : Option Bool :=
  Option.bind (slices_IndexFunc_api_Expr a0 q1) fun (y1 : Int) =>
  some (decide (y1 ≥ 0))
mutual
def expr_deep : Nat → GExpr → Int → Option Bool
  | 0, _, _ => none
  | n + 1, a0, a1 =>
    if (a1 == 0) = true then
      some false
    else
      Option.bind (slices_ContainsFunc_api_Expr a0.fKids (fun (z2 : GExpr) => (expr_deep_1 n) z2 a1)) fun (y3 : Bool) =>
      some (!y3)
def expr_deep_1 : Nat → GExpr → Int → Option Bool
  | 0, _, _ => none
  | n + 1, a0, c0 =>
    Option.bind ((expr_deep n) a0 (w_i64 (c0 - 1))) fun (y1 : Bool) =>
    some (!y1)
end

def expr_all (a0 : GExpr) : Option GExpr :=
  some a0
def slices_Backward_api_Expr (a0 : List GExpr) : Option (List GExpr) :=
  some a0
def slices_Backward_api_Expr_1_L1 (c0 : List GExpr) (sp : Nat) (rows : List (Int × GExpr)) : Nat → Nat → Int → Option (Ctl (Nat) (Nat))
  | 0, _, _ => none
  | n + 1, x11, x12 =>
    if (decide (x12 ≥ 0)) = true then
      Option.bind (idx c0 x12) fun (y30 : GExpr) =>
      Option.bind (yck rows sp x11 (x12, y30)) fun (u32 : Unit) =>
      if (!(!(x11 == sp))) = true then
        some (.stop (x11 + 1))
      else
        slices_Backward_api_Expr_1_L1 c0 sp rows n (x11 + 1) (w_i64 (x12 - 1))
    else
      some (.next x11)
def slices_Backward_api_Expr_1 (rows : List (Int × GExpr)) (sp : Nat) (c0 : List GExpr) : Option Nat :=
  Option.bind (slices_Backward_api_Expr_1_L1 c0 sp rows ((((w_i64 ((c0.length : Int) - 1)) : Int) - (0)).toNat + 2) 0 (w_i64 ((c0.length : Int) - 1))) fun lr38 =>
  Ctl.elim lr38 (fun v => some v) fun x37 =>
  some x37
def itR_back_api_Expr_n (l : List GExpr) : Nat → List (Int × GExpr)
  | 0 => []
  | n + 1 => match l[n]? with
    | some x => ((n : Int), x) :: itR_back_api_Expr_n l n
    | none => []
def itR_back_api_Expr (l : List GExpr) : Option (List (Int × GExpr)) := if l.length < 4611686018427387904 then some (itR_back_api_Expr_n l l.length) else none
def expr_all_1_B2  : Int × GExpr → (List GExpr) → Option (Ctl Unit (List GExpr))
  | (x131, x132), x123 =>
    Option.bind (room ((x123.length : Int) + (([zGExpr] : List GExpr).length : Int)) 56) fun (u133 : Unit) =>
    Option.bind (idx (x123 ++ ([zGExpr] : List GExpr)) (x123.length : Int)) fun (y135 : GExpr) =>
    some (.next ((x123 ++ ([zGExpr] : List GExpr)).set ((x123.length : Int) : Int).toNat x132))
def expr_all_1_L1 (sp : Nat) (rows : List (GExpr)) : Nat → Nat → (List GExpr) → Option (Ctl (Nat) (Nat))
  | 0, _, _ => none
  | n + 1, x48, x49 =>
    if (decide ((x49.length : Int) > 0)) = true then
      Option.bind (idx x49 (w_i64 ((x49.length : Int) - 1))) fun (y102 : GExpr) =>
      Option.bind (cutL x49 0 (w_i64 ((x49.length : Int) - 1))) fun (y106 : List GExpr) =>
      Option.bind (yck rows sp x48 y102) fun (u110 : Unit) =>
      if (!(!(x48 == sp))) = true then
        some (.stop (x48 + 1))
      else
        Option.bind (slices_Backward_api_Expr y102.fKids) fun (y115 : (List GExpr)) =>
        Option.bind (itR_back_api_Expr y115) fun (rows138 : List (Int × GExpr)) =>
        Option.bind (runs expr_all_1_B2 rows138 y106) fun (lr140 : Ctl Unit (List GExpr)) =>
        Ctl.elim lr140 (fun _ => none) (fun x123 =>
          expr_all_1_L1 sp rows n (x48 + 1) x123)
    else
      some (.next x48)
def expr_all_1 (rows : List (GExpr)) (sp : Nat) (c0 : GExpr) : Option Nat :=
  Option.bind (expr_all_1_L1 sp rows (mGExpr c0 + 2) 0 [c0]) fun lr149 =>
  Ctl.elim lr149 (fun v => some v) fun x148 =>
  some x148
mutual
def preE : GExpr → List GExpr
  | ⟨k, n, nm, l⟩ => ⟨k, n, nm, l⟩ :: preEL l
def preEL : List GExpr → List GExpr
  | [] => []
  | x :: l => preE x ++ preEL l
end
def itR_all (e : GExpr) : Option (List GExpr) := if mGExpr e ≤ 1000000 then some (preE e) else none
def expr_kids (a0 : Int) : Option Int :=
  Option.bind (if (a0 == 1) = true then
    some (a0 == 1)
  else
    if (a0 == 2) = true then
      some (a0 == 2)
    else
      if (a0 == 3) = true then
        some (a0 == 3)
      else
        if (a0 == 4) = true then
          some (a0 == 4)
        else
          some (a0 == 5) : Option (Bool)) fun x5 =>
  if x5 = true then
    some 0
  else
    Option.bind (if (a0 == 12) = true then
      some (a0 == 12)
    else
      some (a0 == 13) : Option (Bool)) fun x10 =>
    if x10 = true then
      some 1
    else
      Option.bind (if (a0 == 6) = true then
        some (a0 == 6)
      else
        if (a0 == 7) = true then
          some (a0 == 7)
        else
          if (a0 == 8) = true then
            some (a0 == 8)
          else
            if (a0 == 9) = true then
              some (a0 == 9)
            else
              if (a0 == 10) = true then
                some (a0 == 10)
              else
                if (a0 == 11) = true then
                  some (a0 == 11)
                else
                  some (a0 == 14) : Option (Bool)) fun x20 =>
      if x20 = true then
        some 2
      else
        some (-1)
def word_Letter (a0 : Int) : Option Bool :=
  if (decide ((orI .u8 a0 32) ≥ 97)) = true then
    some (decide ((orI .u8 a0 32) ≤ 122))
  else
    some false
def word_Digit (a0 : Int) : Option Bool :=
  some (decide ((w_u8 (a0 - 48)) < 10))
def glob_0 : List (List UInt8) := [[99, 108, 97, 115, 115], [101, 120, 116, 101, 110, 100, 115], [114, 101, 112], [112, 101, 101, 114], [119, 111, 114, 108, 100], [97, 110, 121], [117, 110, 105, 113, 117, 101], [112, 117, 114, 101], [118, 111, 105, 100], [105, 110, 116], [105, 102], [101, 108, 115, 101], [119, 104, 105, 108, 101], [114, 101, 116, 117, 114, 110], [110, 101, 119], [109, 111, 118, 101], [100, 101, 108, 101, 116, 101], [116, 104, 105, 115], [110, 117, 108, 108], [105, 110, 112, 117, 116], [110, 105, 108], [115, 97, 109, 101], [99, 97, 115, 116]]
def globrow_0 : List PV := [.str [99, 108, 97, 115, 115], .str [101, 120, 116, 101, 110, 100, 115], .str [114, 101, 112], .str [112, 101, 101, 114], .str [119, 111, 114, 108, 100], .str [97, 110, 121], .str [117, 110, 105, 113, 117, 101], .str [112, 117, 114, 101], .str [118, 111, 105, 100], .str [105, 110, 116], .str [105, 102], .str [101, 108, 115, 101], .str [119, 104, 105, 108, 101], .str [114, 101, 116, 117, 114, 110], .str [110, 101, 119], .str [109, 111, 118, 101], .str [100, 101, 108, 101, 116, 101], .str [116, 104, 105, 115], .str [110, 117, 108, 108], .str [105, 110, 112, 117, 116], .str [110, 105, 108], .str [115, 97, 109, 101], .str [99, 97, 115, 116]]
theorem globe_0 : globrow_0 = (List.map eS glob_0).flatten := by kernel_rfl
theorem globm_0 : (0, globrow_0) ∈ globs_Tryd := .head _
def word_is (a0 : List UInt8) : Option (List UInt8) :=
  some a0
def slices_IndexFunc_string_L1 (a0 : List (List UInt8)) (q1 : (List UInt8) → Option Bool) : Nat → Int → Option (Ctl (Int) (Unit))
  | 0, _ => none
  | n + 1, x11 =>
    if (decide (x11 < (a0.length : Int))) = true then
      Option.bind (idx a0 x11) fun (y28 : List UInt8) =>
      Option.bind (q1 y28) fun (y30 : Bool) =>
      if y30 = true then
        some (.stop x11)
      else
        slices_IndexFunc_string_L1 a0 q1 n (w_i64 (x11 + 1))
    else
      some (.next ())
def slices_IndexFunc_string (a0 : List (List UInt8)) (q1 : (List UInt8) → Option Bool) : Option Int :=
  Option.bind (slices_IndexFunc_string_L1 a0 q1 ((((a0.length : Int) : Int) - (0)).toNat + 1) 0) fun lr34 =>
  Ctl.elim lr34 (fun v => some v) fun _ =>
  some (-1)
def word_is_1 (a0 : List UInt8) (c0 : List UInt8) : Option Bool :=
  some (a0 == c0)
def word_Find (a0 : List UInt8) : Option Int :=
  Option.bind (word_is a0) fun (y1 : (List UInt8)) =>
  Option.bind (slices_IndexFunc_string glob_0 (fun (z3 : List UInt8) => word_is_1 z3 y1)) fun (y4 : Int) =>
  some (w_i64 (y4 + 1))
def word_Name_L1 (a0 : List UInt8) : Nat → Int → Option (Ctl (Bool) (Unit))
  | 0, _ => none
  | n + 1, x31 =>
    if (decide (x31 < ((bytesL a0).length : Int))) = true then
      Option.bind (idx (bytesL a0) x31) fun (y52 : Int) =>
      Option.bind (Option.bind (word_Letter y52) fun (y56 : Bool) =>
      if (!y56) = true then
        Option.bind (word_Digit y52) fun (y59 : Bool) =>
        some (!y59)
      else
        some false : Option (Bool)) fun x61 =>
      if x61 = true then
        some (.stop false)
      else
        word_Name_L1 a0 n (w_i64 (x31 + 1))
    else
      some (.next ())
def word_Name (a0 : List UInt8) : Option Bool :=
  Option.bind (if (a0 == []) = true then
    some true
  else
    if (decide ((a0.length : Int) > 20)) = true then
      some true
    else
      Option.bind (idx a0 0) fun (y3 : UInt8) =>
      Option.bind (word_Letter (y3.toNat : Int)) fun (y5 : Bool) =>
      some (!y5) : Option (Bool)) fun x7 =>
  if x7 = true then
    some false
  else
    Option.bind (room (a0.length : Int) 1) fun (u13 : Unit) =>
    Option.bind (word_Name_L1 a0 (((((bytesL a0).length : Int) : Int) - (0)).toNat + 1) 0) fun lr66 =>
    Ctl.elim lr66 (fun v => some v) fun _ =>
    Option.bind (word_Find a0) fun (y68 : Int) =>
    some (y68 == 0)
def expr_plain_1 (a0 : GExpr) (c0 : GExpr) : Option Bool :=
  if (a0.fKind != 2) = true then
    if (a0.fKind != 3) = true then
      if (a0.fKind != 4) = true then
        some true
      else
        some (c0.fKind == 13)
    else
      some false
  else
    some false
def expr_plain (a0 : GExpr) : Option Bool :=
  Option.bind (Option.bind (expr_kids a0.fKind) fun (y3 : Int) =>
  if ((a0.fKids.length : Int) != y3) = true then
    some true
  else
    if (a0.fKind != 1) = true then
      if (a0.fNum != 0) = true then
        some true
      else
        if (a0.fKind != 2) = true then
          some (!(a0.fName == []))
        else
          some false
    else
      if (a0.fKind != 2) = true then
        some (!(a0.fName == []))
      else
        some false : Option (Bool)) fun x10 =>
  if x10 = true then
    some false
  else
    if (a0.fKind == 1) = true then
      if (decide (a0.fNum ≥ 0)) = true then
        some (decide (a0.fNum ≤ 999999999))
      else
        some false
    else
      if (a0.fKind == 2) = true then
        Option.bind (word_Name a0.fName) fun (y17 : Bool) =>
        some y17
      else
        Option.bind (if (a0.fKind == 13) = true then
          some (a0.fKind == 13)
        else
          some (a0.fKind == 14) : Option (Bool)) fun x20 =>
        if x20 = true then
          Option.bind (slices_ContainsFunc_api_Expr a0.fKids (fun (z24 : GExpr) => expr_plain_1 z24 a0)) fun (y25 : Bool) =>
          some (!y25)
        else
          some true
def expr_Right_B1  : GExpr → Unit → Option (Ctl Unit Unit)
  | x22, _ =>
    Option.bind (expr_plain x22) fun (y25 : Bool) =>
    if (!y25) = true then
      some (.stop ())
    else
      some (.next ())
def expr_Right (a0 : GExpr) : Option Bool :=
  Option.bind (expr_deep (2 * (20 : Int).toNat + 2) a0 20) fun (y3 : Bool) =>
  if (!y3) = true then
    some false
  else
    Option.bind (expr_all a0) fun (y8 : GExpr) =>
    Option.bind (itR_all y8) fun (rows28 : List (GExpr)) =>
    Option.bind (runs expr_Right_B1 rows28 ()) fun (lr30 : Ctl Unit Unit) =>
    Ctl.elim lr30 (fun _ =>
      some false) (fun _ =>
      some true)
def slices_IndexFunc_api_Class_L1 (a0 : List GClass) (q1 : GClass → Option Bool) : Nat → Int → Option (Ctl (Int) (Unit))
  | 0, _ => none
  | n + 1, x11 =>
    if (decide (x11 < (a0.length : Int))) = true then
      Option.bind (idx a0 x11) fun (y28 : GClass) =>
      Option.bind (q1 y28) fun (y30 : Bool) =>
      if y30 = true then
        some (.stop x11)
      else
        slices_IndexFunc_api_Class_L1 a0 q1 n (w_i64 (x11 + 1))
    else
      some (.next ())
def slices_IndexFunc_api_Class (a0 : List GClass) (q1 : GClass → Option Bool) : Option Int :=
  Option.bind (slices_IndexFunc_api_Class_L1 a0 q1 ((((a0.length : Int) : Int) - (0)).toNat + 1) 0) fun lr34 =>
  Ctl.elim lr34 (fun v => some v) fun _ =>
  some (-1)
def table_Find_1 (a0 : GClass) (c0 : List UInt8) : Option Bool :=
  some (a0.fName == c0)
def table_Find (a0 : List GClass) (a1 : List UInt8) : Option Int :=
  Option.bind (slices_IndexFunc_api_Class a0 (fun (z1 : GClass) => table_Find_1 z1 a1)) fun (y2 : Int) =>
  some y2
def slices_IndexFunc_api_Method_L1 (a0 : List GMethod) (q1 : GMethod → Option Bool) : Nat → Int → Option (Ctl (Int) (Unit))
  | 0, _ => none
  | n + 1, x11 =>
    if (decide (x11 < (a0.length : Int))) = true then
      Option.bind (idx a0 x11) fun (y28 : GMethod) =>
      Option.bind (q1 y28) fun (y30 : Bool) =>
      if y30 = true then
        some (.stop x11)
      else
        slices_IndexFunc_api_Method_L1 a0 q1 n (w_i64 (x11 + 1))
    else
      some (.next ())
def slices_IndexFunc_api_Method (a0 : List GMethod) (q1 : GMethod → Option Bool) : Option Int :=
  Option.bind (slices_IndexFunc_api_Method_L1 a0 q1 ((((a0.length : Int) : Int) - (0)).toNat + 1) 0) fun lr34 =>
  Ctl.elim lr34 (fun v => some v) fun _ =>
  some (-1)
def frame_Method_1 (a0 : GMethod) (c0 : GFrame) : Option Bool :=
  some (a0.fName == c0.fMethod)
def frame_Method (a0 : List GClass) (a1 : GFrame) : Option (GClass × GMethod × Bool) :=
  Option.bind (table_Find a0 a1.fClass) fun (y3 : Int) =>
  if (decide (y3 < 0)) = true then
    some (({ fName := [], fParams := [], fSuper := [], fAbove := [], fFields := [], fMethods := [], fAt := 0 } : GClass), ({ fName := [], fPure := false, fRet := zGType, fParams := [], fLocals := [], fBody := [], fAt := 0 } : GMethod), false)
  else
    Option.bind (idx a0 y3) fun (y11 : GClass) =>
    Option.bind (slices_IndexFunc_api_Method y11.fMethods (fun (z13 : GMethod) => frame_Method_1 z13 a1)) fun (y14 : Int) =>
    if (decide (y14 < 0)) = true then
      some (({ fName := [], fParams := [], fSuper := [], fAbove := [], fFields := [], fMethods := [], fAt := 0 } : GClass), ({ fName := [], fPure := false, fRet := zGType, fParams := [], fLocals := [], fBody := [], fAt := 0 } : GMethod), false)
    else
      Option.bind (idx a0 y3) fun (y17 : GClass) =>
      Option.bind (idx a0 y3) fun (y19 : GClass) =>
      Option.bind (idx y19.fMethods y14) fun (y21 : GMethod) =>
      some (y17, y21, true)
def slices_IndexFunc_api_Var_L1 (a0 : List GVar) (q1 : GVar → Option Bool) : Nat → Int → Option (Ctl (Int) (Unit))
  | 0, _ => none
  | n + 1, x11 =>
    if (decide (x11 < (a0.length : Int))) = true then
      Option.bind (idx a0 x11) fun (y28 : GVar) =>
      Option.bind (q1 y28) fun (y30 : Bool) =>
      if y30 = true then
        some (.stop x11)
      else
        slices_IndexFunc_api_Var_L1 a0 q1 n (w_i64 (x11 + 1))
    else
      some (.next ())
def slices_IndexFunc_api_Var (a0 : List GVar) (q1 : GVar → Option Bool) : Option Int :=
  Option.bind (slices_IndexFunc_api_Var_L1 a0 q1 ((((a0.length : Int) : Int) - (0)).toNat + 1) 0) fun lr34 =>
  Ctl.elim lr34 (fun v => some v) fun _ =>
  some (-1)
def scope_Place_1 (a0 : GVar) (c0 : List UInt8) : Option Bool :=
  some (a0.fName == c0)
def scope_Place (a0 : GMethod) (a1 : List UInt8) : Option Int :=
  Option.bind (slices_IndexFunc_api_Var a0.fParams (fun (z4 : GVar) => scope_Place_1 z4 a1)) fun (y5 : Int) =>
  if (decide (y5 ≥ 0)) = true then
    some y5
  else
    Option.bind (slices_IndexFunc_api_Var a0.fLocals (fun (z11 : GVar) => scope_Place_1 z11 a1)) fun (y12 : Int) =>
    if (decide (y12 < 0)) = true then
      some (-1)
    else
      some (w_i64 ((a0.fParams.length : Int) + y12))
def frame_place (a0 : List GClass) (a1 : GFrame) (a2 : List UInt8) : Option Int :=
  Option.bind (frame_Method a0 a1) fun (y3 : GClass × GMethod × Bool) =>
  Option.bind (scope_Place y3.2.1 a2) fun (y7 : Int) =>
  Option.bind (if y3.2.2 = true then
    some (decide (y7 < (a1.fVars.length : Int)))
  else
    some false : Option (Bool)) fun x10 =>
  if x10 = true then
    some y7
  else
    some (-1)
def frame_Get (a0 : List GClass) (a1 : GFrame) (a2 : List UInt8) : Option (GVal × Bool) :=
  Ctl.go (if (a2 == [116, 104, 105, 115]) = true then
    obind (frame_Method a0 a1) fun (y4 : GClass × GMethod × Bool) =>
    if y4.2.2 = true then
      .stop (some (({ fRef := true, fN := a1.fThis } : GVal), true))
    else
      .next ()
  else
    .next () : Ctl (Option (GVal × Bool)) (Unit)) fun _ =>
  Option.bind (frame_place a0 a1 a2) fun (y9 : Int) =>
  if (decide (y9 < 0)) = true then
    some (({ fRef := false, fN := 0 } : GVal), false)
  else
    Option.bind (idx a1.fVars y9) fun (y12 : GVal) =>
    some (y12, true)
def __calc_counter__fail_w (b0 : Gcounter_calc) : Option (GVal × Gcounter_calc) :=
  some (({ fRef := false, fN := 0 } : GVal), ({ b0 with fbad := true } : Gcounter_calc))
def __calc_counter__take_w (b0 : Gcounter_calc) : Option (Int × Gcounter_calc) :=
  if ((b0.fin.length : Int) == 0) = true then
    some (0, b0)
  else
    Option.bind (idx b0.fin 0) fun (y4 : Int) =>
    Option.bind (cutL b0.fin 1 b0.fin.length) fun (y6 : List Int) =>
    some (y4, ({ b0 with fin := y6 } : Gcounter_calc))
def calc_sign_1 (a0 : Int) (a1 : Int) : Option Int :=
  some (w_i64 (a0 + a1))
theorem calc_sign_1_ok {a0 : Int} {a1 : Int} {r : Int} (hF : calc_sign_1 a0 a1 = some r) : Abs.Fn globs_Tryd Tryd.prog 94 [.int .i64 a0, .int .i64 a1] [.p (.int .i64 r)] := by
  unfold calc_sign_1 at hF
  refine fn_of_body (n := 8) Tryd.func94 rfl rfl rfl ?_
  intro w O
  refine aw_seq ?_
  refine aw_region ?_
  refine ras ?_
  refine reg_nil ?_
  refine post_imp (s' := ⟨8, [(0, some (.pv (.int .i64 a0))), (1, some (.pv (.int .i64 a1)))], [], 0, [], [], 0, []⟩) (imps [] ⟨by kernel_rfl, by kernel_rfl, trivial⟩ trivial) ?_
  refine post_next ?_
  refine aw_seq ?_
  refine aw_region ?_
  iterate 2 (refine rmv ?_)
  refine rgp (op_int (k := .i64) (m := a0) (n := a1) rfl rfl rfl rfl rfl rfl) ?_
  refine ras ?_
  refine reg_nil ?_
  refine post_imp (s' := ⟨8, [(4, some (.pv (.int .i64 (w_i64 (a0 + a1)))))], [], 0, [], [], 0, []⟩) (imps [] ⟨by kernel_rfl, trivial⟩ trivial) ?_
  refine post_next ?_
  refine aw_ret ?_
  obtain rfl := Option.some.inj hF
  exact prt
def calc_sign_2 (a0 : Int) (a1 : Int) : Option Int :=
  some (w_i64 (a0 - a1))
theorem calc_sign_2_ok {a0 : Int} {a1 : Int} {r : Int} (hF : calc_sign_2 a0 a1 = some r) : Abs.Fn globs_Tryd Tryd.prog 95 [.int .i64 a0, .int .i64 a1] [.p (.int .i64 r)] := by
  unfold calc_sign_2 at hF
  refine fn_of_body (n := 8) Tryd.func95 rfl rfl rfl ?_
  intro w O
  refine aw_seq ?_
  refine aw_region ?_
  refine ras ?_
  refine reg_nil ?_
  refine post_imp (s' := ⟨8, [(0, some (.pv (.int .i64 a0))), (1, some (.pv (.int .i64 a1)))], [], 0, [], [], 0, []⟩) (imps [] ⟨by kernel_rfl, by kernel_rfl, trivial⟩ trivial) ?_
  refine post_next ?_
  refine aw_seq ?_
  refine aw_region ?_
  iterate 2 (refine rmv ?_)
  refine rgp (op_int (k := .i64) (m := a0) (n := a1) rfl rfl rfl rfl rfl rfl) ?_
  refine ras ?_
  refine reg_nil ?_
  refine post_imp (s' := ⟨8, [(4, some (.pv (.int .i64 (w_i64 (a0 - a1)))))], [], 0, [], [], 0, []⟩) (imps [] ⟨by kernel_rfl, trivial⟩ trivial) ?_
  refine post_next ?_
  refine aw_ret ?_
  obtain rfl := Option.some.inj hF
  exact prt
def calc_sign_3 (a0 : Int) (a1 : Int) : Option Int :=
  some (w_i64 (a0 * a1))
theorem calc_sign_3_ok {a0 : Int} {a1 : Int} {r : Int} (hF : calc_sign_3 a0 a1 = some r) : Abs.Fn globs_Tryd Tryd.prog 96 [.int .i64 a0, .int .i64 a1] [.p (.int .i64 r)] := by
  unfold calc_sign_3 at hF
  refine fn_of_body (n := 8) Tryd.func96 rfl rfl rfl ?_
  intro w O
  refine aw_seq ?_
  refine aw_region ?_
  refine ras ?_
  refine reg_nil ?_
  refine post_imp (s' := ⟨8, [(0, some (.pv (.int .i64 a0))), (1, some (.pv (.int .i64 a1)))], [], 0, [], [], 0, []⟩) (imps [] ⟨by kernel_rfl, by kernel_rfl, trivial⟩ trivial) ?_
  refine post_next ?_
  refine aw_seq ?_
  refine aw_region ?_
  iterate 2 (refine rmv ?_)
  refine rgp (op_int (k := .i64) (m := a0) (n := a1) rfl rfl rfl rfl rfl rfl) ?_
  refine ras ?_
  refine reg_nil ?_
  refine post_imp (s' := ⟨8, [(4, some (.pv (.int .i64 (w_i64 (a0 * a1)))))], [], 0, [], [], 0, []⟩) (imps [] ⟨by kernel_rfl, trivial⟩ trivial) ?_
  refine post_next ?_
  refine aw_ret ?_
  obtain rfl := Option.some.inj hF
  exact prt
def calc_bit (a0 : Bool) : Option Int :=
  if a0 = true then
    some 1
  else
    some 0
theorem calc_bit_ok {a0 : Bool} {r : Int} (hF : calc_bit a0 = some r) : Abs.Fn globs_Tryd Tryd.prog 98 [.bool a0] [.p (.int .i64 r)] := by
  unfold calc_bit at hF
  refine fn_of_body (n := 4) Tryd.func98 rfl rfl rfl ?_
  intro w O
  refine aw_seq ?_
  refine aw_region ?_
  refine ras ?_
  refine reg_nil ?_
  refine post_imp (s' := ⟨4, [(0, some (.pv (.bool a0)))], [], 0, [], [], 0, []⟩) (imps [] ⟨by kernel_rfl, trivial⟩ trivial) ?_
  refine post_next ?_
  iterate 2 (refine aw_seq ?_)
  refine aw_region ?_
  refine rmv ?_
  refine reg_nil ?_
  refine post_imp (s' := ⟨4, [(3, some (.pv (.bool a0)))], [], 0, [], [], 0, []⟩) (imps [] ⟨by kernel_rfl, trivial⟩ trivial) ?_
  refine post_next ?_
  rcases ite_some hF with ⟨hb1, hF⟩ | ⟨hb1, hF⟩
  · refine aw_cond_t rfl hb1 ?_
    refine aw_seq ?_
    refine aw_region ?_
    refine ras ?_
    refine reg_nil ?_
    refine post_imp (s' := ⟨4, [(2, some (.pv (.int .i64 1)))], [], 0, [], [], 0, []⟩) (imps [] ⟨by kernel_rfl, trivial⟩ trivial) ?_
    refine post_next ?_
    refine aw_ret ?_
    refine post_then_ret ?_
    obtain rfl := Option.some.inj hF
    exact prt
  refine aw_cond_f rfl hb1 ?_
  refine aw_skip ?_
  refine post_next ?_
  refine aw_seq ?_
  refine aw_region ?_
  refine ras ?_
  refine reg_nil ?_
  refine post_imp (s' := ⟨4, [(2, some (.pv (.int .i64 0)))], [], 0, [], [], 0, []⟩) (imps [] ⟨by kernel_rfl, trivial⟩ trivial) ?_
  refine post_next ?_
  refine aw_ret ?_
  obtain rfl := Option.some.inj hF
  exact prt
def calc_sign_4 (a0 : Int) (a1 : Int) : Option Int :=
  Option.bind (calc_bit (decide (a0 < a1))) fun (y1 : Int) =>
  some y1
theorem calc_sign_4_ok {a0 : Int} {a1 : Int} {r : Int} (hF : calc_sign_4 a0 a1 = some r) : Abs.Fn globs_Tryd Tryd.prog 97 [.int .i64 a0, .int .i64 a1] [.p (.int .i64 r)] := by
  unfold calc_sign_4 at hF
  refine fn_of_body (n := 9) Tryd.func97 rfl rfl rfl ?_
  intro w O
  refine aw_seq ?_
  refine aw_region ?_
  refine ras ?_
  refine reg_nil ?_
  refine post_imp (s' := ⟨9, [(0, some (.pv (.int .i64 a0))), (1, some (.pv (.int .i64 a1)))], [], 0, [], [], 0, []⟩) (imps [] ⟨by kernel_rfl, by kernel_rfl, trivial⟩ trivial) ?_
  refine post_next ?_
  refine aw_seq ?_
  refine aw_region ?_
  iterate 2 (refine rmv ?_)
  refine rgp (op_int (k := .i64) (m := a0) (n := a1) rfl rfl rfl rfl rfl rfl) ?_
  obtain ⟨y1, h2, hF⟩ := bind_some hF
  refine rgp (op_call 0 rfl (caps := []) (args := [.bool (decide (a0 < a1))]) (rs := [.p (.int .i64 y1)]) rfl rfl rfl Tryd_cal_98 (calc_bit_ok h2) rfl rfl rfl) ?_
  refine ras ?_
  refine reg_nil ?_
  refine post_imp (s' := ⟨9, [(4, some (.pv (.int .i64 y1)))], [], 0, [], [], 0, []⟩) (imps [] ⟨by kernel_rfl, trivial⟩ trivial) ?_
  refine post_next ?_
  refine aw_ret ?_
  obtain rfl := Option.some.inj hF
  exact prt
def calc_sign_5 (a0 : Int) (a1 : Int) : Option Int :=
  Option.bind (calc_bit (a0 == a1)) fun (y1 : Int) =>
  some y1
theorem calc_sign_5_ok {a0 : Int} {a1 : Int} {r : Int} (hF : calc_sign_5 a0 a1 = some r) : Abs.Fn globs_Tryd Tryd.prog 99 [.int .i64 a0, .int .i64 a1] [.p (.int .i64 r)] := by
  unfold calc_sign_5 at hF
  refine fn_of_body (n := 9) Tryd.func99 rfl rfl rfl ?_
  intro w O
  refine aw_seq ?_
  refine aw_region ?_
  refine ras ?_
  refine reg_nil ?_
  refine post_imp (s' := ⟨9, [(0, some (.pv (.int .i64 a0))), (1, some (.pv (.int .i64 a1)))], [], 0, [], [], 0, []⟩) (imps [] ⟨by kernel_rfl, by kernel_rfl, trivial⟩ trivial) ?_
  refine post_next ?_
  refine aw_seq ?_
  refine aw_region ?_
  iterate 2 (refine rmv ?_)
  refine rgp (op_int (k := .i64) (m := a0) (n := a1) rfl rfl rfl rfl rfl rfl) ?_
  obtain ⟨y1, h2, hF⟩ := bind_some hF
  refine rgp (op_call 0 rfl (caps := []) (args := [.bool (a0 == a1)]) (rs := [.p (.int .i64 y1)]) rfl rfl rfl Tryd_cal_98 (calc_bit_ok h2) rfl rfl rfl) ?_
  refine ras ?_
  refine reg_nil ?_
  refine post_imp (s' := ⟨9, [(4, some (.pv (.int .i64 y1)))], [], 0, [], [], 0, []⟩) (imps [] ⟨by kernel_rfl, trivial⟩ trivial) ?_
  refine post_next ?_
  refine aw_ret ?_
  obtain rfl := Option.some.inj hF
  exact prt
def calc_sign_6 (a0 : Int) (a1 : Int) : Option Int :=
  Option.bind (calc_bit (a0 != 0)) fun (y1 : Int) =>
  Option.bind (calc_bit (a1 != 0)) fun (y3 : Int) =>
  some (andI .i64 y1 y3)
theorem calc_sign_6_ok {a0 : Int} {a1 : Int} {r : Int} (hF : calc_sign_6 a0 a1 = some r) : Abs.Fn globs_Tryd Tryd.prog 100 [.int .i64 a0, .int .i64 a1] [.p (.int .i64 r)] := by
  unfold calc_sign_6 at hF
  refine fn_of_body (n := 12) Tryd.func100 rfl rfl rfl ?_
  intro w O
  refine aw_seq ?_
  refine aw_region ?_
  refine ras ?_
  refine reg_nil ?_
  refine post_imp (s' := ⟨12, [(0, some (.pv (.int .i64 a0))), (1, some (.pv (.int .i64 a1)))], [], 0, [], [], 0, []⟩) (imps [] ⟨by kernel_rfl, by kernel_rfl, trivial⟩ trivial) ?_
  refine post_next ?_
  refine aw_seq ?_
  refine aw_region ?_
  refine rmv ?_
  refine rgp (op_int (k := .i64) (m := a0) (n := 0) rfl rfl rfl rfl rfl rfl) ?_
  obtain ⟨y1, h2, hF⟩ := bind_some hF
  refine rgp (op_call 0 rfl (caps := []) (args := [.bool (a0 != 0)]) (rs := [.p (.int .i64 y1)]) rfl rfl rfl Tryd_cal_98 (calc_bit_ok h2) rfl rfl rfl) ?_
  refine rmv ?_
  refine rgp (op_int (k := .i64) (m := a1) (n := 0) rfl rfl rfl rfl rfl rfl) ?_
  obtain ⟨y3, h4, hF⟩ := bind_some hF
  refine rgp (op_call 0 rfl (caps := []) (args := [.bool (a1 != 0)]) (rs := [.p (.int .i64 y3)]) rfl rfl rfl Tryd_cal_98 (calc_bit_ok h4) rfl rfl rfl) ?_
  refine rgp (op_int2 (k := .i64) (m := y1) (n := y3) rfl rfl rfl rfl rfl rfl) ?_
  refine ras ?_
  refine reg_nil ?_
  refine post_imp (s' := ⟨12, [(4, some (.pv (.int .i64 (andI .i64 y1 y3))))], [], 0, [], [], 0, []⟩) (imps [] ⟨by kernel_rfl, trivial⟩ trivial) ?_
  refine post_next ?_
  refine aw_ret ?_
  obtain rfl := Option.some.inj hF
  exact prt
def calc_sign_7 (a0 : Int) (a1 : Int) : Option Int :=
  Option.bind (calc_bit (a0 == 0)) fun (y1 : Int) =>
  some y1
theorem calc_sign_7_ok {a0 : Int} {a1 : Int} {r : Int} (hF : calc_sign_7 a0 a1 = some r) : Abs.Fn globs_Tryd Tryd.prog 101 [.int .i64 a0, .int .i64 a1] [.p (.int .i64 r)] := by
  unfold calc_sign_7 at hF
  refine fn_of_body (n := 8) Tryd.func101 rfl rfl rfl ?_
  intro w O
  refine aw_seq ?_
  refine aw_region ?_
  refine ras ?_
  refine reg_nil ?_
  refine post_imp (s' := ⟨8, [(0, some (.pv (.int .i64 a0)))], [], 0, [], [], 0, []⟩) (imps [] ⟨by kernel_rfl, trivial⟩ trivial) ?_
  refine post_next ?_
  refine aw_seq ?_
  refine aw_region ?_
  refine rmv ?_
  refine rgp (op_int (k := .i64) (m := a0) (n := 0) rfl rfl rfl rfl rfl rfl) ?_
  obtain ⟨y1, h2, hF⟩ := bind_some hF
  refine rgp (op_call 0 rfl (caps := []) (args := [.bool (a0 == 0)]) (rs := [.p (.int .i64 y1)]) rfl rfl rfl Tryd_cal_98 (calc_bit_ok h2) rfl rfl rfl) ?_
  refine ras ?_
  refine reg_nil ?_
  refine post_imp (s' := ⟨8, [(4, some (.pv (.int .i64 y1)))], [], 0, [], [], 0, []⟩) (imps [] ⟨by kernel_rfl, trivial⟩ trivial) ?_
  refine post_next ?_
  refine aw_ret ?_
  obtain rfl := Option.some.inj hF
  exact prt
def calc_sign (a0 : Int) : Option Clo0 :=
  if (a0 == 6) = true then
    some (⟨94, [], fun z => calc_sign_1 z.1 z.2, Tryd_cal_94, fun z r h => calc_sign_1_ok h⟩ : Clo0)
  else
    if (a0 == 7) = true then
      some (⟨95, [], fun z => calc_sign_2 z.1 z.2, Tryd_cal_95, fun z r h => calc_sign_2_ok h⟩ : Clo0)
    else
      if (a0 == 8) = true then
        some (⟨96, [], fun z => calc_sign_3 z.1 z.2, Tryd_cal_96, fun z r h => calc_sign_3_ok h⟩ : Clo0)
      else
        if (a0 == 9) = true then
          some (⟨97, [], fun z => calc_sign_4 z.1 z.2, Tryd_cal_97, fun z r h => calc_sign_4_ok h⟩ : Clo0)
        else
          Option.bind (if (a0 == 10) = true then
            some (a0 == 10)
          else
            some (a0 == 14) : Option (Bool)) fun x6 =>
          if x6 = true then
            some (⟨99, [], fun z => calc_sign_5 z.1 z.2, Tryd_cal_99, fun z r h => calc_sign_5_ok h⟩ : Clo0)
          else
            if (a0 == 11) = true then
              some (⟨100, [], fun z => calc_sign_6 z.1 z.2, Tryd_cal_100, fun z r h => calc_sign_6_ok h⟩ : Clo0)
            else
              some (⟨101, [], fun z => calc_sign_7 z.1 z.2, Tryd_cal_101, fun z r h => calc_sign_7_ok h⟩ : Clo0)
def __calc_counter__of_w_L1 (a1 : GExpr) (x16 : Bool) (__calc_counter__of_w_rec : GExpr → Gcounter_calc → Option (GVal × Gcounter_calc)) : Nat → Gcounter_calc → (List Int) → Int → Option (Ctl (GVal × Gcounter_calc) (Gcounter_calc × (List Int)))
  | 0, _, _, _ => none
  | n + 1, x39, x40, x41 =>
    if (decide (x41 < (a1.fKids.length : Int))) = true then
      Option.bind (idx a1.fKids x41) fun (y68 : GExpr) =>
      Option.bind (__calc_counter__of_w_rec y68 x39) fun (y72 : GVal × Gcounter_calc) =>
      Option.bind (if y72.2.fbad = true then
        some true
      else
        some (!(y72.1.fRef == x16)) : Option (Bool)) fun x75 =>
      if x75 = true then
        Option.bind (__calc_counter__fail_w y72.2) fun (y79 : GVal × Gcounter_calc) =>
        some (.stop (y79.1, y79.2))
      else
        Option.bind (room ((x40.length : Int) + ([y72.1.fN].length : Int)) 8) fun (u83 : Unit) =>
        __calc_counter__of_w_L1 a1 x16 __calc_counter__of_w_rec n y72.2 (x40 ++ [y72.1.fN]) (w_i64 (x41 + 1))
    else
      some (.next (x39, x40))
def __calc_counter__of_w : Nat → GExpr → Gcounter_calc → Option (GVal × Gcounter_calc)
  | 0, _, _ => none
  | n + 1, a1, b0 =>
    if (a1.fKind == 1) = true then
      some (({ fRef := false, fN := a1.fNum } : GVal), b0)
    else
      if (a1.fKind == 2) = true then
        Option.bind (frame_Get b0.fp b0.ff a1.fName) fun (y5 : GVal × Bool) =>
        if (!y5.2) = true then
          Option.bind (__calc_counter__fail_w b0) fun (y8 : GVal × Gcounter_calc) =>
          some (y8.1, y8.2)
        else
          some (y5.1, b0)
      else
        if (a1.fKind == 3) = true then
          some (({ fRef := true, fN := b0.ff.fThis } : GVal), b0)
        else
          if (a1.fKind == 4) = true then
            some (({ fRef := true, fN := 0 } : GVal), b0)
          else
            if (a1.fKind == 5) = true then
              Option.bind (__calc_counter__take_w b0) fun (y13 : Int × Gcounter_calc) =>
              some (({ fRef := false, fN := y13.1 } : GVal), y13.2)
            else
              Option.bind (if (a1.fKind == 13) = true then
                some true
              else
                some (a1.fKind == 14) : Option (Bool)) fun x16 =>
              Option.bind (__calc_counter__of_w_L1 a1 x16 (__calc_counter__of_w n) ((((a1.fKids.length : Int) : Int) - (0)).toNat + 1) b0 [] 0) fun lr90 =>
              Ctl.elim lr90 (fun v => some v) fun (x88, x89) =>
              Option.bind (calc_sign a1.fKind) fun (y92 : Clo0) =>
              Option.bind (idx x89 0) fun (y94 : Int) =>
              Option.bind (idx x89 (w_i64 ((x89.length : Int) - 1))) fun (y96 : Int) =>
              Option.bind (y92.q (y94, y96)) fun (y98 : Int) =>
              some (({ fRef := false, fN := y98 } : GVal), x88)
def slices_Clone_int (a0 : List Int) : Option (List Int) :=
  Option.bind (room ((([] : List Int).length : Int) + (a0.length : Int)) 8) fun _ =>
  some a0
def calc_All_L1 (a3 : List GExpr) : Nat → Gcounter_calc → (List GVal) → Int → Option (Ctl ((List GVal) × (List Int) × Int) (Gcounter_calc × (List GVal)))
  | 0, _, _, _ => none
  | n + 1, x20, x21, x22 =>
    if (decide (x22 < (a3.length : Int))) = true then
      Option.bind (idx a3 x22) fun (y48 : GExpr) =>
      Option.bind (expr_Right y48) fun (y52 : Bool) =>
      if (!y52) = true then
        some (.stop ([], [], 10))
      else
        Option.bind (__calc_counter__of_w (mGExpr y48 + 1) y48 x20) fun (y59 : GVal × Gcounter_calc) =>
        Option.bind (room ((x21.length : Int) + ([y59.1].length : Int)) 16) fun (u61 : Unit) =>
        if y59.2.fbad = true then
          some (.stop ([], [], 10))
        else
          calc_All_L1 a3 n y59.2 (x21 ++ [y59.1]) (w_i64 (x22 + 1))
    else
      some (.next (x20, x21))
def calc_All (a0 : List GClass) (a1 : GFrame) (a2 : List Int) (a3 : List GExpr) : Option ((List GVal) × (List Int) × Int) :=
  Option.bind (calc_All_L1 a3 ((((a3.length : Int) : Int) - (0)).toNat + 1) ({ fp := a0, ff := a1, fin := a2, fbad := false } : Gcounter_calc) [] 0) fun lr69 =>
  Ctl.elim lr69 (fun v => some v) fun (x67, x68) =>
  Option.bind (slices_Clone_int x67.fin) fun (y71 : List Int) =>
  some (x68, y71, 0)
def calc_Of (a0 : List GClass) (a1 : GFrame) (a2 : List Int) (a3 : GExpr) : Option (GVal × (List Int) × Int) :=
  Option.bind (calc_All a0 a1 a2 [a3]) fun (y3 : (List GVal) × (List Int) × Int) =>
  if (y3.2.2 != 0) = true then
    some (({ fRef := false, fN := 0 } : GVal), [], y3.2.2)
  else
    Option.bind (idx y3.1 0) fun (y6 : GVal) =>
    some (y6, y3.2.1, y3.2.2)
def law39_awake  : Option Bool :=
  Option.bind (calc_Of [] ({ fThis := 0, fClass := [], fMethod := [], fVars := [], fPC := 0, fInto := 0 } : GFrame) [3, 4, 5] ({ fKind := 6, fNum := 0, fName := [], fKids := [({ fKind := 8, fNum := 0, fName := [], fKids := [({ fKind := 5, fNum := 0, fName := [], fKids := [] } : GExpr), ({ fKind := 1, fNum := 2, fName := [], fKids := [] } : GExpr)] } : GExpr), ({ fKind := 5, fNum := 0, fName := [], fKids := [] } : GExpr)] } : GExpr)) fun (y3 : GVal × (List Int) × Int) =>
  if (bGVal y3.1 ({ fRef := false, fN := 10 } : GVal)) = true then
    if ((y3.2.1.length : Int) == 1) = true then
      Option.bind (idx y3.2.1 0) fun (y7 : Int) =>
      if (y7 == 5) = true then
        some (y3.2.2 == 0)
      else
        some false
    else
      some false
  else
    some false
def ref06_kids (a0 : Int) : Option Int :=
  Option.bind (if (decide (a0 ≥ 6)) = true then
    if (decide (a0 ≤ 11)) = true then
      some true
    else
      some (a0 == 14)
  else
    some (a0 == 14) : Option (Bool)) fun x3 =>
  if x3 = true then
    some 2
  else
    Option.bind (if (a0 == 12) = true then
      some true
    else
      some (a0 == 13) : Option (Bool)) fun x8 =>
    if x8 = true then
      some 1
    else
      some 0
def ref02_Letter (a0 : Int) : Option Bool :=
  if (decide (a0 ≥ 97)) = true then
    if (decide (a0 ≤ 122)) = true then
      some true
    else
      if (decide (a0 ≥ 65)) = true then
        some (decide (a0 ≤ 90))
      else
        some false
  else
    if (decide (a0 ≥ 65)) = true then
      some (decide (a0 ≤ 90))
    else
      some false
def ref02_Words  : Option (List (List UInt8)) :=
  some [[99, 108, 97, 115, 115], [101, 120, 116, 101, 110, 100, 115], [114, 101, 112], [112, 101, 101, 114], [119, 111, 114, 108, 100], [97, 110, 121], [117, 110, 105, 113, 117, 101], [112, 117, 114, 101], [118, 111, 105, 100], [105, 110, 116], [105, 102], [101, 108, 115, 101], [119, 104, 105, 108, 101], [114, 101, 116, 117, 114, 110], [110, 101, 119], [109, 111, 118, 101], [100, 101, 108, 101, 116, 101], [116, 104, 105, 115], [110, 117, 108, 108], [105, 110, 112, 117, 116], [110, 105, 108], [115, 97, 109, 101], [99, 97, 115, 116]]
def ref02_Find_L1 (a0 : List UInt8) (y3 : (List (List UInt8))) : Nat → Int → Option (Ctl (Int) (Unit))
  | 0, _ => none
  | n + 1, x11 =>
    if (decide (x11 < (y3.length : Int))) = true then
      Option.bind (idx y3 x11) fun (y22 : List UInt8) =>
      if (y22 == a0) = true then
        some (.stop (w_i64 (x11 + 1)))
      else
        ref02_Find_L1 a0 y3 n (w_i64 (x11 + 1))
    else
      some (.next ())
def ref02_Find (a0 : List UInt8) : Option Int :=
  Option.bind ref02_Words fun (y3 : (List (List UInt8))) =>
  Option.bind (ref02_Find_L1 a0 y3 ((((y3.length : Int) : Int) - (0)).toNat + 1) 0) fun lr26 =>
  Ctl.elim lr26 (fun v => some v) fun _ =>
  some 0
def ref02_Digit (a0 : Int) : Option Bool :=
  if (decide (a0 ≥ 48)) = true then
    some (decide (a0 ≤ 57))
  else
    some false
def ref02_Name_L1 (a0 : List UInt8) : Nat → Int → Option (Ctl (Bool) (Unit))
  | 0, _ => none
  | n + 1, x32 =>
    if (decide (x32 < (a0.length : Int))) = true then
      Option.bind (Option.bind (idx a0 x32) fun (y57 : UInt8) =>
      Option.bind (ref02_Letter (y57.toNat : Int)) fun (y59 : Bool) =>
      if (!y59) = true then
        Option.bind (idx a0 x32) fun (y62 : UInt8) =>
        Option.bind (ref02_Digit (y62.toNat : Int)) fun (y64 : Bool) =>
        some (!y64)
      else
        some false : Option (Bool)) fun x66 =>
      if x66 = true then
        some (.stop false)
      else
        ref02_Name_L1 a0 n (w_i64 (x32 + 1))
    else
      some (.next ())
def ref02_Name (a0 : List UInt8) : Option Bool :=
  Option.bind (if (decide ((a0.length : Int) < 1)) = true then
    some true
  else
    if (decide ((a0.length : Int) > 20)) = true then
      some true
    else
      Option.bind (idx a0 0) fun (y3 : UInt8) =>
      Option.bind (ref02_Letter (y3.toNat : Int)) fun (y5 : Bool) =>
      if (!y5) = true then
        some true
      else
        Option.bind (ref02_Find a0) fun (y8 : Int) =>
        some (decide (y8 > 0)) : Option (Bool)) fun x10 =>
  if x10 = true then
    some false
  else
    Option.bind (ref02_Name_L1 a0 ((((a0.length : Int) : Int) - (0)).toNat + 1) 0) fun lr71 =>
    Ctl.elim lr71 (fun v => some v) fun _ =>
    some true
def ref06_form_L1 (a0 : GExpr) (ref06_form_rec : GExpr → Option Bool) : Nat → Int → Option (Ctl (Bool) (Unit))
  | 0, _ => none
  | n + 1, x62 =>
    if (decide (x62 < (a0.fKids.length : Int))) = true then
      Option.bind (idx a0.fKids x62) fun (y93 : GExpr) =>
      Option.bind (Option.bind (idx a0.fKids x62) fun (y99 : GExpr) =>
      Option.bind (ref06_form_rec y99) fun (y101 : Bool) =>
      if (!y101) = true then
        some true
      else
        if (a0.fKind == 13) = true then
          if (y93.fKind != 2) = true then
            if (y93.fKind != 3) = true then
              some true
            else
              if (a0.fKind == 14) = true then
                some false
              else
                some false
          else
            if (a0.fKind == 14) = true then
              some false
            else
              some false
        else
          if (a0.fKind == 14) = true then
            if (y93.fKind != 2) = true then
              if (y93.fKind != 3) = true then
                some (y93.fKind != 4)
              else
                some false
            else
              some false
          else
            some false : Option (Bool)) fun x112 =>
      if x112 = true then
        some (.stop false)
      else
        ref06_form_L1 a0 ref06_form_rec n (w_i64 (x62 + 1))
    else
      some (.next ())
def ref06_form : Nat → GExpr → Option Bool
  | 0, _ => none
  | n + 1, a0 =>
    Option.bind (if (decide (a0.fKind < 1)) = true then
      some true
    else
      if (decide (a0.fKind > 14)) = true then
        some true
      else
        Option.bind (ref06_kids a0.fKind) fun (y3 : Int) =>
        if ((a0.fKids.length : Int) != y3) = true then
          some true
        else
          if (a0.fKind != 1) = true then
            if (a0.fNum != 0) = true then
              some true
            else
              if (a0.fKind != 2) = true then
                if (!(a0.fName == [])) = true then
                  some true
                else
                  if (decide (a0.fNum < 0)) = true then
                    some true
                  else
                    if (decide (a0.fNum > 999999999)) = true then
                      some true
                    else
                      if (a0.fKind == 2) = true then
                        Option.bind (ref02_Name a0.fName) fun (y13 : Bool) =>
                        some (!y13)
                      else
                        some false
              else
                if (decide (a0.fNum < 0)) = true then
                  some true
                else
                  if (decide (a0.fNum > 999999999)) = true then
                    some true
                  else
                    if (a0.fKind == 2) = true then
                      Option.bind (ref02_Name a0.fName) fun (y18 : Bool) =>
                      some (!y18)
                    else
                      some false
          else
            if (a0.fKind != 2) = true then
              if (!(a0.fName == [])) = true then
                some true
              else
                if (decide (a0.fNum < 0)) = true then
                  some true
                else
                  if (decide (a0.fNum > 999999999)) = true then
                    some true
                  else
                    if (a0.fKind == 2) = true then
                      Option.bind (ref02_Name a0.fName) fun (y25 : Bool) =>
                      some (!y25)
                    else
                      some false
            else
              if (decide (a0.fNum < 0)) = true then
                some true
              else
                if (decide (a0.fNum > 999999999)) = true then
                  some true
                else
                  if (a0.fKind == 2) = true then
                    Option.bind (ref02_Name a0.fName) fun (y30 : Bool) =>
                    some (!y30)
                  else
                    some false : Option (Bool)) fun x32 =>
    if x32 = true then
      some false
    else
      Option.bind (ref06_form_L1 a0 (ref06_form n) ((((a0.fKids.length : Int) : Int) - (0)).toNat + 1) 0) fun lr117 =>
      Ctl.elim lr117 (fun v => some v) fun _ =>
      some true
def ref06_Deep_L1 (a0 : GExpr) (ref06_Deep_rec : GExpr → Option Int) : Nat → Int → Int → Option (Int)
  | 0, _, _ => none
  | n + 1, x10, x11 =>
    if (decide (x11 < (a0.fKids.length : Int))) = true then
      Option.bind (idx a0.fKids x11) fun (y28 : GExpr) =>
      Option.bind (ref06_Deep_rec y28) fun (y30 : Int) =>
      ref06_Deep_L1 a0 ref06_Deep_rec n (if y30 > x10 then y30 else x10) (w_i64 (x11 + 1))
    else
      some x10
def ref06_Deep : Nat → GExpr → Option Int
  | 0, _ => none
  | n + 1, a0 =>
    Option.bind (ref06_Deep_L1 a0 (ref06_Deep n) ((((a0.fKids.length : Int) : Int) - (0)).toNat + 1) 0 0) fun x34 =>
    some (w_i64 (x34 + 1))
def ref06_Right (a0 : GExpr) : Option Bool :=
  Option.bind (ref06_form (mGExpr a0 + 1) a0) fun (y1 : Bool) =>
  if y1 = true then
    Option.bind (ref06_Deep (mGExpr a0 + 1) a0) fun (y4 : Int) =>
    some (decide (y4 ≤ 20))
  else
    some false
def ref39_bad  : Option GGot_ref39 :=
  some ({ fV := zGVal, fLeft := [], fEnd := 10 } : GGot_ref39)
def ref13_Find_L1 (a0 : List GClass) (a1 : List UInt8) : Nat → Int → Option (Ctl (Int) (Unit))
  | 0, _ => none
  | n + 1, x7 =>
    if (decide (x7 < (a0.length : Int))) = true then
      Option.bind (idx a0 x7) fun (y18 : GClass) =>
      if (y18.fName == a1) = true then
        some (.stop x7)
      else
        ref13_Find_L1 a0 a1 n (w_i64 (x7 + 1))
    else
      some (.next ())
def ref13_Find (a0 : List GClass) (a1 : List UInt8) : Option Int :=
  Option.bind (ref13_Find_L1 a0 a1 ((((a0.length : Int) : Int) - (0)).toNat + 1) 0) fun lr22 =>
  Ctl.elim lr22 (fun v => some v) fun _ =>
  some (-1)
def ref38_Method_L1 (a0 : List GClass) (a1 : GFrame) (y3 : Int) : Nat → Int → Option (Ctl (GClass × GMethod × Bool) (Unit))
  | 0, _ => none
  | n + 1, x27 =>
    Option.bind (if (decide (y3 ≥ 0)) = true then
      Option.bind (idx a0 y3) fun (y52 : GClass) =>
      some (decide (x27 < (y52.fMethods.length : Int)))
    else
      some false : Option (Bool)) fun x54 =>
    if x54 = true then
      Option.bind (idx a0 y3) fun (y62 : GClass) =>
      Option.bind (idx y62.fMethods x27) fun (y64 : GMethod) =>
      if (y64.fName == a1.fMethod) = true then
        Option.bind (idx a0 y3) fun (y67 : GClass) =>
        Option.bind (idx a0 y3) fun (y69 : GClass) =>
        Option.bind (idx y69.fMethods x27) fun (y71 : GMethod) =>
        some (.stop (y67, y71, true))
      else
        ref38_Method_L1 a0 a1 y3 n (w_i64 (x27 + 1))
    else
      some (.next ())
def ref38_Method (a0 : List GClass) (a1 : GFrame) : Option (GClass × GMethod × Bool) :=
  Option.bind (ref13_Find a0 a1.fClass) fun (y3 : Int) =>
  Option.bind (ref38_Method_L1 a0 a1 y3 (mLGClass a0 + 1) 0) fun lr74 =>
  Ctl.elim lr74 (fun v => some v) fun _ =>
  some (({ fName := [], fParams := [], fSuper := [], fAbove := [], fFields := [], fMethods := [], fAt := 0 } : GClass), ({ fName := [], fPure := false, fRet := zGType, fParams := [], fLocals := [], fBody := [], fAt := 0 } : GMethod), false)
def ref12_Vars (a0 : GMethod) : Option (List GVar) :=
  Option.bind (room ((([] : List GVar).length : Int) + (a0.fParams.length : Int)) 120) fun (u1 : Unit) =>
  Option.bind (room (((([] : List GVar) ++ a0.fParams).length : Int) + (a0.fLocals.length : Int)) 120) fun (u3 : Unit) =>
  some ((([] : List GVar) ++ a0.fParams) ++ a0.fLocals)
def ref18_Place_L1 (a1 : List UInt8) (y3 : (List GVar)) : Nat → Int → Option (Ctl (Int) (Unit))
  | 0, _ => none
  | n + 1, x11 =>
    if (decide (x11 < (y3.length : Int))) = true then
      Option.bind (idx y3 x11) fun (y22 : GVar) =>
      if (y22.fName == a1) = true then
        some (.stop x11)
      else
        ref18_Place_L1 a1 y3 n (w_i64 (x11 + 1))
    else
      some (.next ())
def ref18_Place (a0 : GMethod) (a1 : List UInt8) : Option Int :=
  Option.bind (ref12_Vars a0) fun (y3 : (List GVar)) =>
  Option.bind (ref18_Place_L1 a1 y3 ((((y3.length : Int) : Int) - (0)).toNat + 1) 0) fun lr26 =>
  Ctl.elim lr26 (fun v => some v) fun _ =>
  some (-1)
def ref38_place (a0 : List GClass) (a1 : GFrame) (a2 : List UInt8) : Option Int :=
  Option.bind (ref38_Method a0 a1) fun (y3 : GClass × GMethod × Bool) =>
  Option.bind (ref18_Place y3.2.1 a2) fun (y7 : Int) =>
  Option.bind (if (!y3.2.2) = true then
    some true
  else
    some (decide (y7 ≥ (a1.fVars.length : Int))) : Option (Bool)) fun x10 =>
  if x10 = true then
    some (-1)
  else
    some y7
def ref38_Get (a0 : List GClass) (a1 : GFrame) (a2 : List UInt8) : Option (GVal × Bool) :=
  Option.bind (ref38_Method a0 a1) fun (y3 : GClass × GMethod × Bool) =>
  Option.bind (if y3.2.2 = true then
    some (a2 == [116, 104, 105, 115])
  else
    some false : Option (Bool)) fun x6 =>
  if x6 = true then
    some (({ fRef := true, fN := a1.fThis } : GVal), true)
  else
    Option.bind (ref38_place a0 a1 a2) fun (y12 : Int) =>
    if (decide (y12 < 0)) = true then
      some (({ fRef := false, fN := 0 } : GVal), false)
    else
      Option.bind (idx a1.fVars y12) fun (y15 : GVal) =>
      some (y15, true)
def ref39_bit (a0 : Bool) : Option Int :=
  if a0 = true then
    some 1
  else
    some 0
def ref39_sign (a0 : Int) (a1 : Int) (a2 : Int) : Option Int :=
  Option.bind (Option.bind (ref39_bit (decide (a1 < a2))) fun (y5 : Int) =>
  Option.bind (ref39_bit (a1 == a2)) fun (y7 : Int) =>
  if (a1 != 0) = true then
    Option.bind (ref39_bit (a2 != 0)) fun (y10 : Int) =>
    Option.bind (ref39_bit (a1 == 0)) fun (y12 : Int) =>
    Option.bind (ref39_bit (a1 == 0)) fun (y14 : Int) =>
    Option.bind (ref39_bit (a1 == a2)) fun (y16 : Int) =>
    some [w_i64 (a1 + a2), w_i64 (a1 - a2), w_i64 (a1 * a2), y5, y7, y10, y12, y14, y16]
  else
    Option.bind (ref39_bit false) fun (y18 : Int) =>
    Option.bind (ref39_bit (a1 == 0)) fun (y20 : Int) =>
    Option.bind (ref39_bit (a1 == 0)) fun (y22 : Int) =>
    Option.bind (ref39_bit (a1 == a2)) fun (y24 : Int) =>
    some [w_i64 (a1 + a2), w_i64 (a1 - a2), w_i64 (a1 * a2), y5, y7, y18, y20, y22, y24] : Option ((List Int))) fun x26 =>
  Option.bind (idx x26 (w_i64 (a0 - 6))) fun (y29 : Int) =>
  some y29
def ref39_of_L1 (a0 : List GClass) (a1 : GFrame) (a3 : GExpr) (ref39_of_rec : (List GClass) → GFrame → (List Int) → GExpr → Option GGot_ref39) : Nat → (List Int) → (A2 Int) → Int → Option (Ctl (GGot_ref39) ((List Int) × (A2 Int)))
  | 0, _, _, _ => none
  | n + 1, x39, x40, x41 =>
    if (decide (x41 < (a3.fKids.length : Int))) = true then
      Option.bind (idx a3.fKids x41) fun (y71 : GExpr) =>
      Option.bind (ref39_of_rec a0 a1 x39 y71) fun (y73 : GGot_ref39) =>
      Option.bind (if (y73.fEnd != 0) = true then
        some true
      else
        if (a3.fKind == 13) = true then
          some (!(y73.fV.fRef == true))
        else
          some (!(y73.fV.fRef == (a3.fKind == 14))) : Option (Bool)) fun x77 =>
      if x77 = true then
        Option.bind ref39_bad fun (y81 : GGot_ref39) =>
        some (.stop y81)
      else
        Option.bind (idx (x40).l x41) fun (y85 : Int) =>
        ref39_of_L1 a0 a1 a3 ref39_of_rec n y73.fLeft (A2.set x40 (x41 : Int).toNat y73.fV.fN) (w_i64 (x41 + 1))
    else
      some (.next (x39, x40))
def ref39_of : Nat → (List GClass) → GFrame → (List Int) → GExpr → Option GGot_ref39
  | 0, _, _, _, _ => none
  | n + 1, a0, a1, a2, a3 =>
    if (a3.fKind == 1) = true then
      some ({ fV := ({ fRef := false, fN := a3.fNum } : GVal), fLeft := a2, fEnd := 0 } : GGot_ref39)
    else
      if (a3.fKind == 2) = true then
        Option.bind (ref38_Get a0 a1 a3.fName) fun (y5 : GVal × Bool) =>
        if (!y5.2) = true then
          Option.bind ref39_bad fun (y8 : GGot_ref39) =>
          some y8
        else
          some ({ fV := y5.1, fLeft := a2, fEnd := 0 } : GGot_ref39)
      else
        if (a3.fKind == 3) = true then
          some ({ fV := ({ fRef := true, fN := a1.fThis } : GVal), fLeft := a2, fEnd := 0 } : GGot_ref39)
        else
          if (a3.fKind == 4) = true then
            some ({ fV := ({ fRef := true, fN := 0 } : GVal), fLeft := a2, fEnd := 0 } : GGot_ref39)
          else
            Option.bind (if (a3.fKind == 5) = true then
              some ((a2.length : Int) == 0)
            else
              some false : Option (Bool)) fun x13 =>
            if x13 = true then
              some ({ fV := zGVal, fLeft := a2, fEnd := 0 } : GGot_ref39)
            else
              if (a3.fKind == 5) = true then
                Option.bind (idx a2 0) fun (y18 : Int) =>
                Option.bind (cutL a2 1 a2.length) fun (y20 : List Int) =>
                some ({ fV := ({ fRef := false, fN := y18 } : GVal), fLeft := y20, fEnd := 0 } : GGot_ref39)
              else
                Option.bind (ref39_of_L1 a0 a1 a3 (ref39_of n) ((((a3.fKids.length : Int) : Int) - (0)).toNat + 1) a2 (⟨0, 0⟩ : A2 Int) 0) fun lr92 =>
                Ctl.elim lr92 (fun v => some v) fun (x90, x91) =>
                Option.bind (ref39_sign a3.fKind x91.a0 x91.a1) fun (y94 : Int) =>
                some ({ fV := ({ fRef := false, fN := y94 } : GVal), fLeft := x90, fEnd := 0 } : GGot_ref39)
def ref39_Of (a0 : List GClass) (a1 : GFrame) (a2 : List Int) (a3 : GExpr) : Option GGot_ref39 :=
  Option.bind (ref06_Right a3) fun (y3 : Bool) =>
  if (!y3) = true then
    Option.bind ref39_bad fun (y6 : GGot_ref39) =>
    some y6
  else
    Option.bind (ref39_of (mLGClass a0 + mGExpr a3 + 1) a0 a1 a2 a3) fun (y8 : GGot_ref39) =>
    some y8
def ref39_All_L1 (a0 : List GClass) (a1 : GFrame) (a3 : List GExpr) : Nat → (List Int) → (List GVal) → Int → Option (Ctl ((List GVal) × (List Int) × Int) ((List Int) × (List GVal)))
  | 0, _, _, _ => none
  | n + 1, x15, x16, x17 =>
    if (decide (x17 < (a3.length : Int))) = true then
      Option.bind (idx a3 x17) fun (y40 : GExpr) =>
      Option.bind (ref39_Of a0 a1 x15 y40) fun (y42 : GGot_ref39) =>
      if (y42.fEnd != 0) = true then
        some (.stop ([], [], y42.fEnd))
      else
        Option.bind (room ((x16.length : Int) + ([y42.fV].length : Int)) 16) fun (u47 : Unit) =>
        ref39_All_L1 a0 a1 a3 n y42.fLeft (x16 ++ [y42.fV]) (w_i64 (x17 + 1))
    else
      some (.next (x15, x16))
def ref39_All (a0 : List GClass) (a1 : GFrame) (a2 : List Int) (a3 : List GExpr) : Option ((List GVal) × (List Int) × Int) :=
  Option.bind (ref39_All_L1 a0 a1 a3 ((((a3.length : Int) : Int) - (0)).toNat + 1) a2 [] 0) fun lr54 =>
  Ctl.elim lr54 (fun v => some v) fun (x52, x53) =>
  some (x53, x52, 0)
def law39_ints_L1 (a0 : List Int) (a1 : List Int) : Nat → Int → Option (Ctl (Bool) (Unit))
  | 0, _ => none
  | n + 1, x12 =>
    if (decide (x12 < (a0.length : Int))) = true then
      Option.bind (idx a0 x12) fun (y29 : Int) =>
      Option.bind (idx a1 x12) fun (y31 : Int) =>
      if (y29 != y31) = true then
        some (.stop false)
      else
        law39_ints_L1 a0 a1 n (w_i64 (x12 + 1))
    else
      some (.next ())
def law39_ints (a0 : List Int) (a1 : List Int) : Option Bool :=
  if ((a0.length : Int) != (a1.length : Int)) = true then
    some false
  else
    Option.bind (law39_ints_L1 a0 a1 ((((a0.length : Int) : Int) - (0)).toNat + 1) 0) fun lr35 =>
    Ctl.elim lr35 (fun v => some v) fun _ =>
    some true
def law39_CalcAll_L1 (a0 : List GClass) (a1 : GHere_law39) (a2 : List GExpr) : Nat → Int → Option (Ctl (Bool) (Unit))
  | 0, _ => none
  | n + 1, x13 =>
    if (decide (x13 < (a2.length : Int))) = true then
      Option.bind (if (decide ((a2.length : Int) > 20)) = true then
        some true
      else
        Option.bind (idx a2 x13) fun (y29 : GExpr) =>
        Option.bind (law39_great a0 a1 y29) fun (y31 : Bool) =>
        some y31 : Option (Bool)) fun x33 =>
      if x33 = true then
        Option.bind law39_awake fun (y37 : Bool) =>
        some (.stop y37)
      else
        law39_CalcAll_L1 a0 a1 a2 n (w_i64 (x13 + 1))
    else
      some (.next ())
def law39_CalcAll_L2 (y51 : (List GVal) × (List Int) × Int) (y55 : (List GVal) × (List Int) × Int) : Nat → Int → Option (Ctl (Bool) (Unit))
  | 0, _ => none
  | n + 1, x75 =>
    if (decide (x75 < (y51.1.length : Int))) = true then
      Option.bind (idx y51.1 x75) fun (y92 : GVal) =>
      Option.bind (idx y55.1 x75) fun (y94 : GVal) =>
      if (!(bGVal y92 y94)) = true then
        some (.stop false)
      else
        law39_CalcAll_L2 y51 y55 n (w_i64 (x75 + 1))
    else
      some (.next ())
def law39_CalcAll (a0 : List GClass) (a1 : GHere_law39) (a2 : List GExpr) : Option Bool :=
  Option.bind (law39_CalcAll_L1 a0 a1 a2 ((((a2.length : Int) : Int) - (0)).toNat + 1) 0) fun lr40 =>
  Ctl.elim lr40 (fun v => some v) fun _ =>
  Option.bind (law39_great a0 a1 ({ fKind := 0, fNum := 0, fName := [], fKids := [] } : GExpr)) fun (y44 : Bool) =>
  if y44 = true then
    Option.bind law39_awake fun (y47 : Bool) =>
    some y47
  else
    Option.bind (calc_All a0 a1.fF a1.fIn a2) fun (y51 : (List GVal) × (List Int) × Int) =>
    Option.bind (ref39_All a0 a1.fF a1.fIn a2) fun (y55 : (List GVal) × (List Int) × Int) =>
    Option.bind (if ((y51.1.length : Int) != (y55.1.length : Int)) = true then
      some true
    else
      Option.bind (law39_ints y51.2.1 y55.2.1) fun (y58 : Bool) =>
      if (!y58) = true then
        some true
      else
        some (y51.2.2 != y55.2.2) : Option (Bool)) fun x61 =>
    if x61 = true then
      some false
    else
      Option.bind (law39_CalcAll_L2 y51 y55 ((((y51.1.length : Int) : Int) - (0)).toNat + 1) 0) fun lr98 =>
      Ctl.elim lr98 (fun v => some v) fun _ =>
      Option.bind law39_awake fun (y100 : Bool) =>
      some y100

end
end Go.Proofs.YtnnphkfiookbnaaDoor
