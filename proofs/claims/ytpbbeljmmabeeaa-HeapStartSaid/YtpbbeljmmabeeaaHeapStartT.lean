/- A part of the proof that the law HeapStart gives true for every input. -/
import Derived.Test.YtpbbeljmmabeeaaAbsV
/- The types and the plain functions. -/
namespace Go.Proofs.Ytpbbeljmmabeeaa
open Go.RowKit Go.Abs
noncomputable section
structure GOwner where
  fKind : Int
  fN : Int
  deriving DecidableEq
abbrev eGOwner (x : GOwner) : List PV := [.int .i64 x.fKind, .int .i64 x.fN]
structure GType where
  fKind : Int
  fClass : List UInt8
  fN : Int
  fOwn : A4 GOwner
  deriving DecidableEq
abbrev eGType (x : GType) : List PV := [.int .i64 x.fKind, .str x.fClass, .int .i64 x.fN, .int .i64 x.fOwn.a0.fKind, .int .i64 x.fOwn.a0.fN, .int .i64 x.fOwn.a1.fKind, .int .i64 x.fOwn.a1.fN, .int .i64 x.fOwn.a2.fKind, .int .i64 x.fOwn.a2.fN, .int .i64 x.fOwn.a3.fKind, .int .i64 x.fOwn.a3.fN]
structure GVar where
  fName : List UInt8
  fType : GType
  fAt : Int
  deriving DecidableEq
abbrev eGVar (x : GVar) : List PV := [.str x.fName, .int .i64 x.fType.fKind, .str x.fType.fClass, .int .i64 x.fType.fN, .int .i64 x.fType.fOwn.a0.fKind, .int .i64 x.fType.fOwn.a0.fN, .int .i64 x.fType.fOwn.a1.fKind, .int .i64 x.fType.fOwn.a1.fN, .int .i64 x.fType.fOwn.a2.fKind, .int .i64 x.fType.fOwn.a2.fN, .int .i64 x.fType.fOwn.a3.fKind, .int .i64 x.fType.fOwn.a3.fN, .int .i64 x.fAt]
structure GExpr where
  fKind : Int
  fNum : Int
  fName : List UInt8
  fKids : List GExpr
mutual
def rGExpr : GExpr → List PV
  | ⟨z0, z1, z2, z3⟩ => [.int .i64 z0, .int .i64 z1, .str z2, .vs 4 (eLGExpr z3)]
def eLGExpr : List GExpr → List (List PV)
  | [] => []
  | x :: l => rGExpr x :: eLGExpr l
end
abbrev eGExpr (x : GExpr) : List PV := [.int .i64 x.fKind, .int .i64 x.fNum, .str x.fName, .vs 4 (eLGExpr x.fKids)]
theorem rGExpr_eq (x : GExpr) : rGExpr x = eGExpr x := by cases x; simp only [rGExpr]
theorem eLGExpr_map : ∀ l : List GExpr, eLGExpr l = l.map eGExpr
  | [] => by simp only [eLGExpr, List.map_nil]
  | x :: l => by simp only [eLGExpr, List.map_cons, rGExpr_eq, eLGExpr_map l]
mutual
def mGExpr : GExpr → Nat
  | ⟨_, _, _, z3⟩ => 1 + mLGExpr z3
def mLGExpr : List GExpr → Nat
  | [] => 0
  | x :: l => mGExpr x + mLGExpr l
end
structure GStmt where
  fKind : Int
  fX : List UInt8
  fY : List UInt8
  fName : List UInt8
  fType : GType
  fE : GExpr
  fArgs : List GExpr
  fBody : List GStmt
  fElse : List GStmt
  fAt : Int
mutual
def rGStmt : GStmt → List PV
  | ⟨z0, z1, z2, z3, z4, z5, z6, z7, z8, z9⟩ => [.int .i64 z0, .str z1, .str z2, .str z3, .int .i64 z4.fKind, .str z4.fClass, .int .i64 z4.fN, .int .i64 z4.fOwn.a0.fKind, .int .i64 z4.fOwn.a0.fN, .int .i64 z4.fOwn.a1.fKind, .int .i64 z4.fOwn.a1.fN, .int .i64 z4.fOwn.a2.fKind, .int .i64 z4.fOwn.a2.fN, .int .i64 z4.fOwn.a3.fKind, .int .i64 z4.fOwn.a3.fN, .int .i64 z5.fKind, .int .i64 z5.fNum, .str z5.fName, .vs 4 (eLGExpr z5.fKids), .vs 4 (eLGExpr z6), .vs 23 (eLGStmt z7), .vs 23 (eLGStmt z8), .int .i64 z9]
def eLGStmt : List GStmt → List (List PV)
  | [] => []
  | x :: l => rGStmt x :: eLGStmt l
end
abbrev eGStmt (x : GStmt) : List PV := [.int .i64 x.fKind, .str x.fX, .str x.fY, .str x.fName, .int .i64 x.fType.fKind, .str x.fType.fClass, .int .i64 x.fType.fN, .int .i64 x.fType.fOwn.a0.fKind, .int .i64 x.fType.fOwn.a0.fN, .int .i64 x.fType.fOwn.a1.fKind, .int .i64 x.fType.fOwn.a1.fN, .int .i64 x.fType.fOwn.a2.fKind, .int .i64 x.fType.fOwn.a2.fN, .int .i64 x.fType.fOwn.a3.fKind, .int .i64 x.fType.fOwn.a3.fN, .int .i64 x.fE.fKind, .int .i64 x.fE.fNum, .str x.fE.fName, .vs 4 (eLGExpr x.fE.fKids), .vs 4 (eLGExpr x.fArgs), .vs 23 (eLGStmt x.fBody), .vs 23 (eLGStmt x.fElse), .int .i64 x.fAt]
theorem rGStmt_eq (x : GStmt) : rGStmt x = eGStmt x := by cases x; simp only [rGStmt]
theorem eLGStmt_map : ∀ l : List GStmt, eLGStmt l = l.map eGStmt
  | [] => by simp only [eLGStmt, List.map_nil]
  | x :: l => by simp only [eLGStmt, List.map_cons, rGStmt_eq, eLGStmt_map l]
mutual
def mGStmt : GStmt → Nat
  | ⟨_, _, _, _, _, z5, z6, z7, z8, _⟩ => 1 + mGExpr z5 + mLGExpr z6 + mLGStmt z7 + mLGStmt z8
def mLGStmt : List GStmt → Nat
  | [] => 0
  | x :: l => mGStmt x + mLGStmt l
end
structure GMethod where
  fName : List UInt8
  fPure : Bool
  fRet : GType
  fParams : List GVar
  fLocals : List GVar
  fBody : List GStmt
  fAt : Int
def mGMethod : GMethod → Nat
  | ⟨_, _, _, _, _, z5, _⟩ => 1 + mLGStmt z5
def mLGMethod : List GMethod → Nat
  | [] => 0
  | x :: l => mGMethod x + mLGMethod l
abbrev eGMethod (x : GMethod) : List PV := [.str x.fName, .bool x.fPure, .int .i64 x.fRet.fKind, .str x.fRet.fClass, .int .i64 x.fRet.fN, .int .i64 x.fRet.fOwn.a0.fKind, .int .i64 x.fRet.fOwn.a0.fN, .int .i64 x.fRet.fOwn.a1.fKind, .int .i64 x.fRet.fOwn.a1.fN, .int .i64 x.fRet.fOwn.a2.fKind, .int .i64 x.fRet.fOwn.a2.fN, .int .i64 x.fRet.fOwn.a3.fKind, .int .i64 x.fRet.fOwn.a3.fN, .vs 13 (List.map eGVar x.fParams), .vs 13 (List.map eGVar x.fLocals), .vs 23 (eLGStmt x.fBody), .int .i64 x.fAt]
structure GClass where
  fName : List UInt8
  fParams : List (List UInt8)
  fSuper : List UInt8
  fAbove : List GOwner
  fFields : List GVar
  fMethods : List GMethod
  fAt : Int
def mGClass : GClass → Nat
  | ⟨_, _, _, _, _, z5, _⟩ => 1 + mLGMethod z5
def mLGClass : List GClass → Nat
  | [] => 0
  | x :: l => mGClass x + mLGClass l
abbrev eGClass (x : GClass) : List PV := [.str x.fName, .vs 1 (List.map eS x.fParams), .str x.fSuper, .vs 2 (List.map eGOwner x.fAbove), .vs 13 (List.map eGVar x.fFields), .vs 17 (List.map eGMethod x.fMethods), .int .i64 x.fAt]
structure GVal where
  fRef : Bool
  fN : Int
  deriving DecidableEq
abbrev eGVal (x : GVal) : List PV := [.bool x.fRef, .int .i64 x.fN]
structure GCell where
  fClass : List UInt8
  fOwn : A4 Int
  fFields : List GVal
  fDead : Bool
  deriving DecidableEq
abbrev eGCell (x : GCell) : List PV := [.str x.fClass, .int .i64 x.fOwn.a0, .int .i64 x.fOwn.a1, .int .i64 x.fOwn.a2, .int .i64 x.fOwn.a3, .vs 2 (List.map eGVal x.fFields), .bool x.fDead]
structure GSlot_field where
  fClass : List UInt8
  fVar : GVar
  deriving DecidableEq
abbrev eGSlot_field (x : GSlot_field) : List PV := [.str x.fClass, .str x.fVar.fName, .int .i64 x.fVar.fType.fKind, .str x.fVar.fType.fClass, .int .i64 x.fVar.fType.fN, .int .i64 x.fVar.fType.fOwn.a0.fKind, .int .i64 x.fVar.fType.fOwn.a0.fN, .int .i64 x.fVar.fType.fOwn.a1.fKind, .int .i64 x.fVar.fType.fOwn.a1.fN, .int .i64 x.fVar.fType.fOwn.a2.fKind, .int .i64 x.fVar.fType.fOwn.a2.fN, .int .i64 x.fVar.fType.fOwn.a3.fKind, .int .i64 x.fVar.fType.fOwn.a3.fN, .int .i64 x.fVar.fAt]
structure GSlot_ref16 where
  fClass : List UInt8
  fVar : GVar
  deriving DecidableEq
abbrev eGSlot_ref16 (x : GSlot_ref16) : List PV := [.str x.fClass, .str x.fVar.fName, .int .i64 x.fVar.fType.fKind, .str x.fVar.fType.fClass, .int .i64 x.fVar.fType.fN, .int .i64 x.fVar.fType.fOwn.a0.fKind, .int .i64 x.fVar.fType.fOwn.a0.fN, .int .i64 x.fVar.fType.fOwn.a1.fKind, .int .i64 x.fVar.fType.fOwn.a1.fN, .int .i64 x.fVar.fType.fOwn.a2.fKind, .int .i64 x.fVar.fType.fOwn.a2.fN, .int .i64 x.fVar.fType.fOwn.a3.fKind, .int .i64 x.fVar.fType.fOwn.a3.fN, .int .i64 x.fVar.fAt]
def bGVal (a b : GVal) : Bool := (a.fRef == b.fRef && (a.fN == b.fN && true))
def ref10_uniques_L1 (a0 : GMethod) : Nat → Int → Int → Option (Int)
  | 0, _, _ => none
  | n + 1, x10, x11 =>
    if (decide (x11 < (a0.fParams.length : Int))) = true then
      Option.bind (Option.bind (idx a0.fParams x11) fun (y26 : GVar) =>
      if (y26.fType.fOwn.a0.fKind == 6) = true then
        some (w_i64 (x10 + 1))
      else
        some x10 : Option (Int)) fun x29 =>
      ref10_uniques_L1 a0 n x29 (w_i64 (x11 + 1))
    else
      some x10
def ref10_uniques_L2 (a0 : GMethod) : Nat → Int → Int → Option (Int)
  | 0, _, _ => none
  | n + 1, x45, x46 =>
    if (decide (x46 < (a0.fLocals.length : Int))) = true then
      Option.bind (Option.bind (idx a0.fLocals x46) fun (y61 : GVar) =>
      if (y61.fType.fOwn.a0.fKind == 6) = true then
        some (w_i64 (x45 + 1))
      else
        some x45 : Option (Int)) fun x64 =>
      ref10_uniques_L2 a0 n x64 (w_i64 (x46 + 1))
    else
      some x45
def ref10_uniques (a0 : GMethod) : Option Int :=
  Option.bind (ref10_uniques_L1 a0 ((((a0.fParams.length : Int) : Int) - (0)).toNat + 1) 0 0) fun x34 =>
  Option.bind (ref10_uniques_L2 a0 ((((a0.fLocals.length : Int) : Int) - (0)).toNat + 1) x34 0) fun x69 =>
  some x69
def ref10_kids_L1 (a0 : GExpr) (a1 : Int) (ref10_kids_rec : GExpr → Int → Option Bool) : Nat → Int → Option (Ctl (Bool) (Unit))
  | 0, _ => none
  | n + 1, x16 =>
    if (decide (x16 < (a0.fKids.length : Int))) = true then
      Option.bind (idx a0.fKids x16) fun (y33 : GExpr) =>
      Option.bind (ref10_kids_rec y33 (w_i64 (a1 - 1))) fun (y35 : Bool) =>
      if y35 = true then
        some (.stop true)
      else
        ref10_kids_L1 a0 a1 ref10_kids_rec n (w_i64 (x16 + 1))
    else
      some (.next ())
def ref10_kids : Nat → GExpr → Int → Option Bool
  | 0, _, _ => none
  | n + 1, a0, a1 =>
    Option.bind (if (decide (a1 < 0)) = true then
      some true
    else
      some (decide ((a0.fKids.length : Int) > 4)) : Option (Bool)) fun x2 =>
    if x2 = true then
      some true
    else
      Option.bind (ref10_kids_L1 a0 a1 (ref10_kids n) ((((a0.fKids.length : Int) : Int) - (0)).toNat + 1) 0) fun lr39 =>
      Ctl.elim lr39 (fun v => some v) fun _ =>
      some false
def ref10_much_L1 (a0 : GStmt) : Nat → Int → Option (Ctl (Bool) (Unit))
  | 0, _ => none
  | n + 1, x21 =>
    if (decide (x21 < (a0.fArgs.length : Int))) = true then
      Option.bind (idx a0.fArgs x21) fun (y38 : GExpr) =>
      Option.bind (ref10_kids (mGExpr y38 + 1) y38 25) fun (y40 : Bool) =>
      if y40 = true then
        some (.stop true)
      else
        ref10_much_L1 a0 n (w_i64 (x21 + 1))
    else
      some (.next ())
def ref10_much_L2 (a0 : GStmt) (a1 : Int) (ref10_much_rec : GStmt → Int → Option Bool) : Nat → Int → Option (Ctl (Bool) (Unit))
  | 0, _ => none
  | n + 1, x56 =>
    if (decide (x56 < (a0.fBody.length : Int))) = true then
      Option.bind (idx a0.fBody x56) fun (y73 : GStmt) =>
      Option.bind (ref10_much_rec y73 (w_i64 (a1 - 1))) fun (y75 : Bool) =>
      if y75 = true then
        some (.stop true)
      else
        ref10_much_L2 a0 a1 ref10_much_rec n (w_i64 (x56 + 1))
    else
      some (.next ())
def ref10_much_L3 (a0 : GStmt) (a1 : Int) (ref10_much_rec : GStmt → Int → Option Bool) : Nat → Int → Option (Ctl (Bool) (Unit))
  | 0, _ => none
  | n + 1, x91 =>
    if (decide (x91 < (a0.fElse.length : Int))) = true then
      Option.bind (idx a0.fElse x91) fun (y108 : GStmt) =>
      Option.bind (ref10_much_rec y108 (w_i64 (a1 - 1))) fun (y110 : Bool) =>
      if y110 = true then
        some (.stop true)
      else
        ref10_much_L3 a0 a1 ref10_much_rec n (w_i64 (x91 + 1))
    else
      some (.next ())
def ref10_much : Nat → GStmt → Int → Option Bool
  | 0, _, _ => none
  | n + 1, a0, a1 =>
    Option.bind (if (decide (a1 < 0)) = true then
      some true
    else
      if (decide ((a0.fBody.length : Int) > 500)) = true then
        some true
      else
        if (decide ((a0.fElse.length : Int) > 500)) = true then
          some true
        else
          if (decide ((a0.fArgs.length : Int) > 20)) = true then
            some true
          else
            Option.bind (ref10_kids (mGExpr a0.fE + 1) a0.fE 25) fun (y5 : Bool) =>
            some y5 : Option (Bool)) fun x7 =>
    if x7 = true then
      some true
    else
      Option.bind (ref10_much_L1 a0 ((((a0.fArgs.length : Int) : Int) - (0)).toNat + 1) 0) fun lr44 =>
      Ctl.elim lr44 (fun v => some v) fun _ =>
      Option.bind (ref10_much_L2 a0 a1 (ref10_much n) ((((a0.fBody.length : Int) : Int) - (0)).toNat + 1) 0) fun lr79 =>
      Ctl.elim lr79 (fun v => some v) fun _ =>
      Option.bind (ref10_much_L3 a0 a1 (ref10_much n) ((((a0.fElse.length : Int) : Int) - (0)).toNat + 1) 0) fun lr114 =>
      Ctl.elim lr114 (fun v => some v) fun _ =>
      some false
def ref08_Size_L1 (a0 : GStmt) (ref08_Size_rec : GStmt → Option Int) : Nat → Int → Int → Option (Int)
  | 0, _, _ => none
  | n + 1, x10, x11 =>
    if (decide (x11 < (a0.fBody.length : Int))) = true then
      Option.bind (idx a0.fBody x11) fun (y28 : GStmt) =>
      Option.bind (ref08_Size_rec y28) fun (y30 : Int) =>
      ref08_Size_L1 a0 ref08_Size_rec n (w_i64 (x10 + y30)) (w_i64 (x11 + 1))
    else
      some x10
def ref08_Size_L2 (a0 : GStmt) (ref08_Size_rec : GStmt → Option Int) : Nat → Int → Int → Option (Int)
  | 0, _, _ => none
  | n + 1, x45, x46 =>
    if (decide (x46 < (a0.fElse.length : Int))) = true then
      Option.bind (idx a0.fElse x46) fun (y63 : GStmt) =>
      Option.bind (ref08_Size_rec y63) fun (y65 : Int) =>
      ref08_Size_L2 a0 ref08_Size_rec n (w_i64 (x45 + y65)) (w_i64 (x46 + 1))
    else
      some x45
def ref08_Size : Nat → GStmt → Option Int
  | 0, _ => none
  | n + 1, a0 =>
    Option.bind (ref08_Size_L1 a0 (ref08_Size n) ((((a0.fBody.length : Int) : Int) - (0)).toNat + 1) 1 0) fun x34 =>
    Option.bind (ref08_Size_L2 a0 (ref08_Size n) ((((a0.fElse.length : Int) : Int) - (0)).toNat + 1) x34 0) fun x69 =>
    some x69
def ref10_Heavy_L3 (y685 : GMethod) : Nat → Int → Int → Option (Ctl (Bool) (Int))
  | 0, _, _ => none
  | n + 1, x714, x715 =>
    if (decide (x715 < (y685.fBody.length : Int))) = true then
      Option.bind (if (decide (x714 > 500)) = true then
        some true
      else
        Option.bind (idx y685.fBody x715) fun (y738 : GStmt) =>
        Option.bind (ref10_much (mGStmt y738 + 1) y738 25) fun (y740 : Bool) =>
        some y740 : Option (Bool)) fun x742 =>
      if x742 = true then
        some (.stop true)
      else
        Option.bind (idx y685.fBody x715) fun (y750 : GStmt) =>
        Option.bind (ref08_Size (mGStmt y750 + 1) y750) fun (y752 : Int) =>
        ref10_Heavy_L3 y685 n (w_i64 (x714 + y752)) (w_i64 (x715 + 1))
    else
      some (.next x714)
def ref10_Heavy_L2 (y514 : GClass) : Nat → Int → Int → Option (Ctl (Bool) (Int))
  | 0, _, _ => none
  | n + 1, x601, x602 =>
    if (decide (x602 < (y514.fMethods.length : Int))) = true then
      Option.bind (idx y514.fMethods x602) fun (y685 : GMethod) =>
      Option.bind (if (decide ((y685.fParams.length : Int) > 40)) = true then
        some true
      else
        if (decide ((y685.fLocals.length : Int) > 40)) = true then
          some true
        else
          if (decide ((y685.fBody.length : Int) > 500)) = true then
            some true
          else
            Option.bind (ref10_uniques y685) fun (y690 : Int) =>
            some (decide (y690 > 8)) : Option (Bool)) fun x692 =>
      if x692 = true then
        some (.stop true)
      else
        Option.bind (ref10_Heavy_L3 y685 ((((y685.fBody.length : Int) : Int) - (0)).toNat + 1) x601 0) fun lr757 =>
        Ctl.elim lr757 (fun v => some (.stop v)) fun x756 =>
        ref10_Heavy_L2 y514 n x756 (w_i64 (x602 + 1))
    else
      some (.next x601)
def ref10_Heavy_L1 (a0 : List GClass) : Nat → Int → Int → Option (Ctl (Bool) (Int))
  | 0, _, _ => none
  | n + 1, x254, x255 =>
    if (decide (x255 < (a0.length : Int))) = true then
      Option.bind (idx a0 x255) fun (y514 : GClass) =>
      Option.bind (if (decide ((a0.length : Int) > 30)) = true then
        some true
      else
        if (decide ((y514.fParams.length : Int) > 20)) = true then
          some true
        else
          if (decide ((y514.fAbove.length : Int) > 20)) = true then
            some true
          else
            if (decide ((y514.fFields.length : Int) > 40)) = true then
              some true
            else
              some (decide ((y514.fMethods.length : Int) > 40)) : Option (Bool)) fun x520 =>
      if x520 = true then
        some (.stop true)
      else
        Option.bind (ref10_Heavy_L2 y514 ((((y514.fMethods.length : Int) : Int) - (0)).toNat + 1) x254 0) fun lr762 =>
        Ctl.elim lr762 (fun v => some (.stop v)) fun x761 =>
        ref10_Heavy_L1 a0 n x761 (w_i64 (x255 + 1))
    else
      some (.next x254)
def ref10_Heavy (a0 : List GClass) : Option Bool :=
  Option.bind (ref10_Heavy_L1 a0 ((((a0.length : Int) : Int) - (0)).toNat + 1) 0 0) fun lr767 =>
  Ctl.elim lr767 (fun v => some v) fun x766 =>
  some (decide (x766 > 500))
def ref35_Great_L1 (a0 : List GCell) : Nat → Int → Option (Ctl (Bool) (Unit))
  | 0, _ => none
  | n + 1, x9 =>
    if (decide (x9 < (a0.length : Int))) = true then
      Option.bind (if (decide ((a0.length : Int) > 200)) = true then
        some true
      else
        Option.bind (idx a0 x9) fun (y21 : GCell) =>
        some (decide ((y21.fFields.length : Int) > 60)) : Option (Bool)) fun x23 =>
      if x23 = true then
        some (.stop true)
      else
        ref35_Great_L1 a0 n (w_i64 (x9 + 1))
    else
      some (.next ())
def ref35_Great (a0 : List GCell) : Option Bool :=
  Option.bind (ref35_Great_L1 a0 ((((a0.length : Int) : Int) - (0)).toNat + 1) 0) fun lr28 =>
  Ctl.elim lr28 (fun v => some v) fun _ =>
  some false
def heap_Ask (a0 : List GCell) (a1 : Int) : Option Int :=
  if (a1 == 0) = true then
    some 2
  else
    Option.bind (if (decide (a1 < 0)) = true then
      some true
    else
      some (decide (a1 > (a0.length : Int))) : Option (Bool)) fun x3 =>
    if x3 = true then
      some 10
    else
      Option.bind (idx a0 (w_i64 (a1 - 1))) fun (y9 : GCell) =>
      if y9.fDead = true then
        some 7
      else
        some 0
def law35_awake  : Option Bool :=
  Option.bind (heap_Ask [] 0) fun (y1 : Int) =>
  if (y1 == 2) = true then
    Option.bind (heap_Ask [] 1) fun (y4 : Int) =>
    some (y4 == 10)
  else
    some false
def heap_Live_L1 (a0 : List GCell) : Nat → (List Int) → Int → Option ((List Int))
  | 0, _, _ => none
  | n + 1, x12, x13 =>
    if (decide (x13 < (a0.length : Int))) = true then
      Option.bind (Option.bind (idx a0 x13) fun (y30 : GCell) =>
      if (!y30.fDead) = true then
        Option.bind (room ((x12.length : Int) + ([w_i64 (x13 + 1)].length : Int)) 8) fun (u33 : Unit) =>
        some (x12 ++ [w_i64 (x13 + 1)])
      else
        some x12 : Option ((List Int))) fun x35 =>
      heap_Live_L1 a0 n x35 (w_i64 (x13 + 1))
    else
      some x12
def heap_Live (a0 : List GCell) : Option (List Int) :=
  Option.bind (heap_Live_L1 a0 ((((a0.length : Int) : Int) - (0)).toNat + 1) [] 0) fun x40 =>
  some x40
def ref35_Live_L1 (a0 : List GCell) : Nat → (List Int) → Int → Option ((List Int))
  | 0, _, _ => none
  | n + 1, x12, x13 =>
    if (decide (x13 < (a0.length : Int))) = true then
      Option.bind (Option.bind (idx a0 x13) fun (y30 : GCell) =>
      if (!y30.fDead) = true then
        Option.bind (room ((x12.length : Int) + ([w_i64 (x13 + 1)].length : Int)) 8) fun (u33 : Unit) =>
        some (x12 ++ [w_i64 (x13 + 1)])
      else
        some x12 : Option ((List Int))) fun x35 =>
      ref35_Live_L1 a0 n x35 (w_i64 (x13 + 1))
    else
      some x12
def ref35_Live (a0 : List GCell) : Option (List Int) :=
  Option.bind (ref35_Live_L1 a0 ((((a0.length : Int) : Int) - (0)).toNat + 1) [] 0) fun x40 =>
  some x40
def above_up (a0 : List GClass) (a1 : List UInt8) : Option ((List GClass) × (List UInt8)) :=
  some (a0, a1)
def slices_IndexFunc_api_Class_L1 (a0 : List GClass) (q1 : GClass → Option Bool) : Nat → Int → Option (Ctl (Int) (Unit))
  | 0, _ => none
  | n + 1, x11 =>
    if (decide (x11 < (a0.length : Int))) = true then
      Option.bind (idx a0 x11) fun (y28 : GClass) =>
      Option.bind (q1 y28) fun (y30 : Bool) =>
      if y30 = true then
        some (.stop x11)
      else
        slices_IndexFunc_api_Class_L1 a0 q1 n (w_i64 (x11 + 1))
    else
      some (.next ())
def slices_IndexFunc_api_Class (a0 : List GClass) (q1 : GClass → Option Bool) : Option Int :=
  Option.bind (slices_IndexFunc_api_Class_L1 a0 q1 ((((a0.length : Int) : Int) - (0)).toNat + 1) 0) fun lr34 =>
  Ctl.elim lr34 (fun v => some v) fun _ =>
  some (-1)
def table_Find_1 (a0 : GClass) (c0 : List UInt8) : Option Bool :=
  some (a0.fName == c0)
def table_Find (a0 : List GClass) (a1 : List UInt8) : Option Int :=
  Option.bind (slices_IndexFunc_api_Class a0 (fun (z1 : GClass) => table_Find_1 z1 a1)) fun (y2 : Int) =>
  some y2
def above_up_1_L1 (c0 : List GClass) (sp : Nat) (rows : List (Int)) : Nat → Nat → (List UInt8) → Int → Option (Ctl (Nat) (Nat))
  | 0, _, _, _ => none
  | n + 1, x19, x20, x21 =>
    if (decide (x21 < (w_i64 ((c0.length : Int) + 1)))) = true then
      Option.bind (table_Find c0 x20) fun (y46 : Int) =>
      Option.bind (if (decide (y46 < 0)) = true then
        some (x19, true)
      else
        Option.bind (yck rows sp x19 y46) fun (u49 : Unit) =>
        some ((x19 + 1), (!(!(x19 == sp)))) : Option (Nat × Bool)) fun (x51, x52) =>
      if x52 = true then
        some (.stop x51)
      else
        Option.bind (idx c0 y46) fun (y58 : GClass) =>
        if (y58.fSuper == []) = true then
          some (.stop x51)
        else
          above_up_1_L1 c0 sp rows n x51 y58.fSuper (w_i64 (x21 + 1))
    else
      some (.next x19)
def above_up_1 (rows : List (Int)) (sp : Nat) (c0 : List GClass) (c1 : List UInt8) : Option Nat :=
  Option.bind (above_up_1_L1 c0 sp rows ((((w_i64 ((c0.length : Int) + 1)) : Int) - (0)).toNat + 1) 0 c1 0) fun lr65 =>
  Ctl.elim lr65 (fun v => some v) fun x64 =>
  some x64
def itR_up_n (p : List GClass) : Nat → List UInt8 → Option (List Int)
  | 0, _ => some []
  | n + 1, name => Option.bind (table_Find p name) fun i =>
    if i < 0 then some [] else
    Option.bind (idx p i) fun c =>
    if c.fSuper == [] then some [i] else
    Option.bind (itR_up_n p n c.fSuper) fun l => some (i :: l)
def itR_up (p : List GClass) (name : List UInt8) : Option (List Int) := if p.length < 9223372036854775806 then itR_up_n p (p.length + 1) name else none
def slices_Index_int_L1 (a0 : List Int) (a1 : Int) : Nat → Int → Option (Ctl (Int) (Unit))
  | 0, _ => none
  | n + 1, x7 =>
    if (decide (x7 < (a0.length : Int))) = true then
      Option.bind (idx a0 x7) fun (y18 : Int) =>
      if (a1 == y18) = true then
        some (.stop x7)
      else
        slices_Index_int_L1 a0 a1 n (w_i64 (x7 + 1))
    else
      some (.next ())
def slices_Index_int (a0 : List Int) (a1 : Int) : Option Int :=
  Option.bind (slices_Index_int_L1 a0 a1 ((((a0.length : Int) : Int) - (0)).toNat + 1) 0) fun lr22 =>
  Ctl.elim lr22 (fun v => some v) fun _ =>
  some (-1)
def slices_Contains_int (a0 : List Int) (a1 : Int) : Option Bool :=
  Option.bind (slices_Index_int a0 a1) fun (y1 : Int) =>
  some (decide (y1 ≥ 0))
def above_Chain_B1  : Int → (List Int) → Option (Ctl (List Int) (List Int))
  | x23, x13 =>
    Option.bind (slices_Contains_int x13 x23) fun (y26 : Bool) =>
    if y26 = true then
      some (.stop x13)
    else
      Option.bind (room ((x13.length : Int) + ([x23].length : Int)) 8) fun (u29 : Unit) =>
      some (.next (x13 ++ [x23]))
def above_Chain (a0 : List GClass) (a1 : List UInt8) : Option (List Int) :=
  Option.bind (above_up a0 a1) fun (y3 : (List GClass) × (List UInt8)) =>
  Option.bind (itR_up y3.1 y3.2) fun (rows33 : List (Int)) =>
  Option.bind (runs above_Chain_B1 rows33 []) fun (lr35 : Ctl (List Int) (List Int)) =>
  Ctl.elim lr35 (fun x32 =>
    some x32) (fun x13 =>
    some x13)
def slices_Backward_int (a0 : List Int) : Option (List Int) :=
  some a0
def slices_Backward_int_1_L1 (c0 : List Int) (sp : Nat) (rows : List (Int × Int)) : Nat → Nat → Int → Option (Ctl (Nat) (Nat))
  | 0, _, _ => none
  | n + 1, x11, x12 =>
    if (decide (x12 ≥ 0)) = true then
      Option.bind (idx c0 x12) fun (y30 : Int) =>
      Option.bind (yck rows sp x11 (x12, y30)) fun (u32 : Unit) =>
      if (!(!(x11 == sp))) = true then
        some (.stop (x11 + 1))
      else
        slices_Backward_int_1_L1 c0 sp rows n (x11 + 1) (w_i64 (x12 - 1))
    else
      some (.next x11)
def slices_Backward_int_1 (rows : List (Int × Int)) (sp : Nat) (c0 : List Int) : Option Nat :=
  Option.bind (slices_Backward_int_1_L1 c0 sp rows ((((w_i64 ((c0.length : Int) - 1)) : Int) - (0)).toNat + 2) 0 (w_i64 ((c0.length : Int) - 1))) fun lr38 =>
  Ctl.elim lr38 (fun v => some v) fun x37 =>
  some x37
def itR_back_n (l : List Int) : Nat → List (Int × Int)
  | 0 => []
  | n + 1 => match l[n]? with
    | some x => ((n : Int), x) :: itR_back_n l n
    | none => []
def itR_back (l : List Int) : Option (List (Int × Int)) := if l.length < 4611686018427387904 then some (itR_back_n l l.length) else none
def field_All_L2 (a0 : List GClass) (x118 : Int) (y121 : GClass) : Nat → (List GSlot_field) → Int → Option ((List GSlot_field))
  | 0, _, _ => none
  | n + 1, x136, x137 =>
    if (decide (x137 < (y121.fFields.length : Int))) = true then
      Option.bind (idx y121.fFields x137) fun (y156 : GVar) =>
      Option.bind (idx a0 x118) fun (y162 : GClass) =>
      Option.bind (room ((x136.length : Int) + ([({ fClass := y162.fName, fVar := y156 } : GSlot_field)].length : Int)) 136) fun (u164 : Unit) =>
      field_All_L2 a0 x118 y121 n (x136 ++ [({ fClass := y162.fName, fVar := y156 } : GSlot_field)]) (w_i64 (x137 + 1))
    else
      some x136
def field_All_B1 (a0 : List GClass) : Int × Int → (List GSlot_field) → Option (Ctl Unit (List GSlot_field))
  | (x117, x118), x62 =>
    Option.bind (idx a0 x118) fun (y121 : GClass) =>
    Option.bind (field_All_L2 a0 x118 y121 ((((y121.fFields.length : Int) : Int) - (0)).toNat + 1) x62 0) fun x168 =>
    some (.next x168)
def field_All (a0 : List GClass) (a1 : List UInt8) : Option (List GSlot_field) :=
  Option.bind (above_Chain a0 a1) fun (y5 : (List Int)) =>
  Option.bind (slices_Backward_int y5) fun (y7 : (List Int)) =>
  Option.bind (itR_back y7) fun (rows171 : List (Int × Int)) =>
  Option.bind (runs (field_All_B1 a0) rows171 []) fun (lr173 : Ctl Unit (List GSlot_field)) =>
  Ctl.elim lr173 (fun _ => none) (fun x62 =>
    some x62)
def heap_Start_L1 (y3 : (List GSlot_field)) : Nat → (List GVal) → Int → Option ((List GVal))
  | 0, _, _ => none
  | n + 1, x14, x15 =>
    if (decide (x15 < (y3.length : Int))) = true then
      Option.bind (idx y3 x15) fun (y30 : GSlot_field) =>
      Option.bind (room ((x14.length : Int) + ([({ fRef := (y30.fVar.fType.fKind == 2), fN := 0 } : GVal)].length : Int)) 16) fun (u34 : Unit) =>
      heap_Start_L1 y3 n (x14 ++ [({ fRef := (y30.fVar.fType.fKind == 2), fN := 0 } : GVal)]) (w_i64 (x15 + 1))
    else
      some x14
def heap_Start (a0 : List GClass) (a1 : List UInt8) : Option (List GVal) :=
  Option.bind (field_All a0 a1) fun (y3 : (List GSlot_field)) =>
  Option.bind (heap_Start_L1 y3 ((((y3.length : Int) : Int) - (0)).toNat + 1) [] 0) fun x38 =>
  some x38
def ref13_Find_L1 (a0 : List GClass) (a1 : List UInt8) : Nat → Int → Option (Ctl (Int) (Unit))
  | 0, _ => none
  | n + 1, x7 =>
    if (decide (x7 < (a0.length : Int))) = true then
      Option.bind (idx a0 x7) fun (y18 : GClass) =>
      if (y18.fName == a1) = true then
        some (.stop x7)
      else
        ref13_Find_L1 a0 a1 n (w_i64 (x7 + 1))
    else
      some (.next ())
def ref13_Find (a0 : List GClass) (a1 : List UInt8) : Option Int :=
  Option.bind (ref13_Find_L1 a0 a1 ((((a0.length : Int) : Int) - (0)).toNat + 1) 0) fun lr22 =>
  Ctl.elim lr22 (fun v => some v) fun _ =>
  some (-1)
def ref14_has_L1 (a0 : List Int) (a1 : Int) : Nat → Int → Option (Ctl (Bool) (Unit))
  | 0, _ => none
  | n + 1, x7 =>
    if (decide (x7 < (a0.length : Int))) = true then
      Option.bind (idx a0 x7) fun (y18 : Int) =>
      if (y18 == a1) = true then
        some (.stop true)
      else
        ref14_has_L1 a0 a1 n (w_i64 (x7 + 1))
    else
      some (.next ())
def ref14_has (a0 : List Int) (a1 : Int) : Option Bool :=
  Option.bind (ref14_has_L1 a0 a1 ((((a0.length : Int) : Int) - (0)).toNat + 1) 0) fun lr22 =>
  Ctl.elim lr22 (fun v => some v) fun _ =>
  some false
def ref14_Chain_L1 (a0 : List GClass) : Nat → (List Int) → Int → Option (Ctl ((List Int)) ((List Int)))
  | 0, _, _ => none
  | n + 1, x25, x26 =>
    Option.bind (if (decide (x26 ≥ 0)) = true then
      Option.bind (ref14_has x25 x26) fun (y50 : Bool) =>
      some (!y50)
    else
      some false : Option (Bool)) fun x52 =>
    if x52 = true then
      Option.bind (room ((x25.length : Int) + ([x26].length : Int)) 8) fun (u58 : Unit) =>
      Option.bind (idx a0 x26) fun (y62 : GClass) =>
      if (y62.fSuper == []) = true then
        some (.stop (x25 ++ [x26]))
      else
        Option.bind (idx a0 x26) fun (y65 : GClass) =>
        Option.bind (ref13_Find a0 y65.fSuper) fun (y67 : Int) =>
        ref14_Chain_L1 a0 n (x25 ++ [x26]) y67
    else
      some (.next x25)
def ref14_Chain (a0 : List GClass) (a1 : List UInt8) : Option (List Int) :=
  Option.bind (ref13_Find a0 a1) fun (y3 : Int) =>
  Option.bind (ref14_Chain_L1 a0 (a0.length + 2) [] y3) fun lr72 =>
  Ctl.elim lr72 (fun v => some v) fun x71 =>
  some x71
def ref16_All_L2 (y104 : GClass) : Nat → (List GSlot_ref16) → Int → Option ((List GSlot_ref16))
  | 0, _, _ => none
  | n + 1, x115, x116 =>
    if (decide (x116 < (y104.fFields.length : Int))) = true then
      Option.bind (idx y104.fFields x116) fun (y133 : GVar) =>
      Option.bind (room ((x115.length : Int) + ([({ fClass := y104.fName, fVar := y133 } : GSlot_ref16)].length : Int)) 136) fun (u135 : Unit) =>
      ref16_All_L2 y104 n (x115 ++ [({ fClass := y104.fName, fVar := y133 } : GSlot_ref16)]) (w_i64 (x116 + 1))
    else
      some x115
def ref16_All_L1 (a0 : List GClass) (y3 : (List Int)) : Nat → (List GSlot_ref16) → Int → Option ((List GSlot_ref16))
  | 0, _, _ => none
  | n + 1, x49, x50 =>
    if (decide (x50 ≥ 0)) = true then
      Option.bind (idx y3 x50) fun (y102 : Int) =>
      Option.bind (idx a0 y102) fun (y104 : GClass) =>
      Option.bind (ref16_All_L2 y104 ((((y104.fFields.length : Int) : Int) - (0)).toNat + 1) x49 0) fun x139 =>
      ref16_All_L1 a0 y3 n x139 (w_i64 (x50 - 1))
    else
      some x49
def ref16_All (a0 : List GClass) (a1 : List UInt8) : Option (List GSlot_ref16) :=
  Option.bind (ref14_Chain a0 a1) fun (y3 : (List Int)) =>
  Option.bind (ref16_All_L1 a0 y3 ((((w_i64 ((y3.length : Int) - 1)) : Int) - (0)).toNat + 2) [] (w_i64 ((y3.length : Int) - 1))) fun x143 =>
  some x143
def ref35_Start_L1 (y3 : (List GSlot_ref16)) : Nat → (List GVal) → Int → Option ((List GVal))
  | 0, _, _ => none
  | n + 1, x14, x15 =>
    if (decide (x15 < (y3.length : Int))) = true then
      Option.bind (idx y3 x15) fun (y32 : GSlot_ref16) =>
      Option.bind (room ((x14.length : Int) + ([({ fRef := (y32.fVar.fType.fKind == 2), fN := 0 } : GVal)].length : Int)) 16) fun (u34 : Unit) =>
      ref35_Start_L1 y3 n (x14 ++ [({ fRef := (y32.fVar.fType.fKind == 2), fN := 0 } : GVal)]) (w_i64 (x15 + 1))
    else
      some x14
def ref35_Start (a0 : List GClass) (a1 : List UInt8) : Option (List GVal) :=
  Option.bind (ref16_All a0 a1) fun (y3 : (List GSlot_ref16)) =>
  Option.bind (ref35_Start_L1 y3 ((((y3.length : Int) : Int) - (0)).toNat + 1) [] 0) fun x38 =>
  some x38
def ref35_Vals_L1 (a0 : List GVal) (a1 : List GVal) : Nat → Int → Option (Ctl (Bool) (Unit))
  | 0, _ => none
  | n + 1, x12 =>
    if (decide (x12 < (a0.length : Int))) = true then
      Option.bind (idx a0 x12) fun (y29 : GVal) =>
      Option.bind (idx a1 x12) fun (y31 : GVal) =>
      if (!(bGVal y29 y31)) = true then
        some (.stop false)
      else
        ref35_Vals_L1 a0 a1 n (w_i64 (x12 + 1))
    else
      some (.next ())
def ref35_Vals (a0 : List GVal) (a1 : List GVal) : Option Bool :=
  if ((a0.length : Int) != (a1.length : Int)) = true then
    some false
  else
    Option.bind (ref35_Vals_L1 a0 a1 ((((a0.length : Int) : Int) - (0)).toNat + 1) 0) fun lr35 =>
    Ctl.elim lr35 (fun v => some v) fun _ =>
    some true
def law35_HeapStart_L1 (y18 : (List Int)) (y20 : (List Int)) : Nat → Int → Option (Ctl (Bool) (Unit))
  | 0, _ => none
  | n + 1, x33 =>
    if (decide (x33 < (y18.length : Int))) = true then
      Option.bind (idx y18 x33) fun (y50 : Int) =>
      Option.bind (idx y20 x33) fun (y52 : Int) =>
      if (y50 != y52) = true then
        some (.stop false)
      else
        law35_HeapStart_L1 y18 y20 n (w_i64 (x33 + 1))
    else
      some (.next ())
def law35_HeapStart (a0 : List GClass) (a1 : List UInt8) (a2 : List GCell) : Option Bool :=
  Option.bind (Option.bind (ref10_Heavy a0) fun (y3 : Bool) =>
  if y3 = true then
    some true
  else
    Option.bind (ref35_Great a2) fun (y6 : Bool) =>
    some y6 : Option (Bool)) fun x8 =>
  if x8 = true then
    Option.bind law35_awake fun (y12 : Bool) =>
    some y12
  else
    Option.bind (heap_Live a2) fun (y18 : (List Int)) =>
    Option.bind (ref35_Live a2) fun (y20 : (List Int)) =>
    if ((y18.length : Int) != (y20.length : Int)) = true then
      some false
    else
      Option.bind (law35_HeapStart_L1 y18 y20 ((((y18.length : Int) : Int) - (0)).toNat + 1) 0) fun lr56 =>
      Ctl.elim lr56 (fun v => some v) fun _ =>
      Option.bind (heap_Start a0 a1) fun (y58 : (List GVal)) =>
      Option.bind (ref35_Start a0 a1) fun (y60 : (List GVal)) =>
      Option.bind (ref35_Vals y58 y60) fun (y62 : Bool) =>
      if y62 = true then
        Option.bind law35_awake fun (y65 : Bool) =>
        some y65
      else
        some false
end
end Go.Proofs.Ytpbbeljmmabeeaa
