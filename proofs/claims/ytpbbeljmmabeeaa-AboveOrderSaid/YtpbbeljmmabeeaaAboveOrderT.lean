/- A part of the proof that the law AboveOrder gives true for every input. -/
import Derived.Test.YtpbbeljmmabeeaaAbsV
/- The types and the plain functions. -/
namespace Go.Proofs.Ytpbbeljmmabeeaa
open Go.RowKit Go.Abs
noncomputable section
structure GOwner where
  fKind : Int
  fN : Int
  deriving DecidableEq
abbrev eGOwner (x : GOwner) : List PV := [.int .i64 x.fKind, .int .i64 x.fN]
structure GType where
  fKind : Int
  fClass : List UInt8
  fN : Int
  fOwn : A4 GOwner
  deriving DecidableEq
abbrev eGType (x : GType) : List PV := [.int .i64 x.fKind, .str x.fClass, .int .i64 x.fN, .int .i64 x.fOwn.a0.fKind, .int .i64 x.fOwn.a0.fN, .int .i64 x.fOwn.a1.fKind, .int .i64 x.fOwn.a1.fN, .int .i64 x.fOwn.a2.fKind, .int .i64 x.fOwn.a2.fN, .int .i64 x.fOwn.a3.fKind, .int .i64 x.fOwn.a3.fN]
structure GVar where
  fName : List UInt8
  fType : GType
  fAt : Int
  deriving DecidableEq
abbrev eGVar (x : GVar) : List PV := [.str x.fName, .int .i64 x.fType.fKind, .str x.fType.fClass, .int .i64 x.fType.fN, .int .i64 x.fType.fOwn.a0.fKind, .int .i64 x.fType.fOwn.a0.fN, .int .i64 x.fType.fOwn.a1.fKind, .int .i64 x.fType.fOwn.a1.fN, .int .i64 x.fType.fOwn.a2.fKind, .int .i64 x.fType.fOwn.a2.fN, .int .i64 x.fType.fOwn.a3.fKind, .int .i64 x.fType.fOwn.a3.fN, .int .i64 x.fAt]
structure GExpr where
  fKind : Int
  fNum : Int
  fName : List UInt8
  fKids : List GExpr
mutual
def rGExpr : GExpr → List PV
  | ⟨z0, z1, z2, z3⟩ => [.int .i64 z0, .int .i64 z1, .str z2, .vs 4 (eLGExpr z3)]
def eLGExpr : List GExpr → List (List PV)
  | [] => []
  | x :: l => rGExpr x :: eLGExpr l
end
abbrev eGExpr (x : GExpr) : List PV := [.int .i64 x.fKind, .int .i64 x.fNum, .str x.fName, .vs 4 (eLGExpr x.fKids)]
theorem rGExpr_eq (x : GExpr) : rGExpr x = eGExpr x := by cases x; simp only [rGExpr]
theorem eLGExpr_map : ∀ l : List GExpr, eLGExpr l = l.map eGExpr
  | [] => by simp only [eLGExpr, List.map_nil]
  | x :: l => by simp only [eLGExpr, List.map_cons, rGExpr_eq, eLGExpr_map l]
mutual
def mGExpr : GExpr → Nat
  | ⟨_, _, _, z3⟩ => 1 + mLGExpr z3
def mLGExpr : List GExpr → Nat
  | [] => 0
  | x :: l => mGExpr x + mLGExpr l
end
structure GStmt where
  fKind : Int
  fX : List UInt8
  fY : List UInt8
  fName : List UInt8
  fType : GType
  fE : GExpr
  fArgs : List GExpr
  fBody : List GStmt
  fElse : List GStmt
  fAt : Int
mutual
def rGStmt : GStmt → List PV
  | ⟨z0, z1, z2, z3, z4, z5, z6, z7, z8, z9⟩ => [.int .i64 z0, .str z1, .str z2, .str z3, .int .i64 z4.fKind, .str z4.fClass, .int .i64 z4.fN, .int .i64 z4.fOwn.a0.fKind, .int .i64 z4.fOwn.a0.fN, .int .i64 z4.fOwn.a1.fKind, .int .i64 z4.fOwn.a1.fN, .int .i64 z4.fOwn.a2.fKind, .int .i64 z4.fOwn.a2.fN, .int .i64 z4.fOwn.a3.fKind, .int .i64 z4.fOwn.a3.fN, .int .i64 z5.fKind, .int .i64 z5.fNum, .str z5.fName, .vs 4 (eLGExpr z5.fKids), .vs 4 (eLGExpr z6), .vs 23 (eLGStmt z7), .vs 23 (eLGStmt z8), .int .i64 z9]
def eLGStmt : List GStmt → List (List PV)
  | [] => []
  | x :: l => rGStmt x :: eLGStmt l
end
abbrev eGStmt (x : GStmt) : List PV := [.int .i64 x.fKind, .str x.fX, .str x.fY, .str x.fName, .int .i64 x.fType.fKind, .str x.fType.fClass, .int .i64 x.fType.fN, .int .i64 x.fType.fOwn.a0.fKind, .int .i64 x.fType.fOwn.a0.fN, .int .i64 x.fType.fOwn.a1.fKind, .int .i64 x.fType.fOwn.a1.fN, .int .i64 x.fType.fOwn.a2.fKind, .int .i64 x.fType.fOwn.a2.fN, .int .i64 x.fType.fOwn.a3.fKind, .int .i64 x.fType.fOwn.a3.fN, .int .i64 x.fE.fKind, .int .i64 x.fE.fNum, .str x.fE.fName, .vs 4 (eLGExpr x.fE.fKids), .vs 4 (eLGExpr x.fArgs), .vs 23 (eLGStmt x.fBody), .vs 23 (eLGStmt x.fElse), .int .i64 x.fAt]
theorem rGStmt_eq (x : GStmt) : rGStmt x = eGStmt x := by cases x; simp only [rGStmt]
theorem eLGStmt_map : ∀ l : List GStmt, eLGStmt l = l.map eGStmt
  | [] => by simp only [eLGStmt, List.map_nil]
  | x :: l => by simp only [eLGStmt, List.map_cons, rGStmt_eq, eLGStmt_map l]
mutual
def mGStmt : GStmt → Nat
  | ⟨_, _, _, _, _, z5, z6, z7, z8, _⟩ => 1 + mGExpr z5 + mLGExpr z6 + mLGStmt z7 + mLGStmt z8
def mLGStmt : List GStmt → Nat
  | [] => 0
  | x :: l => mGStmt x + mLGStmt l
end
structure GMethod where
  fName : List UInt8
  fPure : Bool
  fRet : GType
  fParams : List GVar
  fLocals : List GVar
  fBody : List GStmt
  fAt : Int
def mGMethod : GMethod → Nat
  | ⟨_, _, _, _, _, z5, _⟩ => 1 + mLGStmt z5
def mLGMethod : List GMethod → Nat
  | [] => 0
  | x :: l => mGMethod x + mLGMethod l
abbrev eGMethod (x : GMethod) : List PV := [.str x.fName, .bool x.fPure, .int .i64 x.fRet.fKind, .str x.fRet.fClass, .int .i64 x.fRet.fN, .int .i64 x.fRet.fOwn.a0.fKind, .int .i64 x.fRet.fOwn.a0.fN, .int .i64 x.fRet.fOwn.a1.fKind, .int .i64 x.fRet.fOwn.a1.fN, .int .i64 x.fRet.fOwn.a2.fKind, .int .i64 x.fRet.fOwn.a2.fN, .int .i64 x.fRet.fOwn.a3.fKind, .int .i64 x.fRet.fOwn.a3.fN, .vs 13 (List.map eGVar x.fParams), .vs 13 (List.map eGVar x.fLocals), .vs 23 (eLGStmt x.fBody), .int .i64 x.fAt]
structure GClass where
  fName : List UInt8
  fParams : List (List UInt8)
  fSuper : List UInt8
  fAbove : List GOwner
  fFields : List GVar
  fMethods : List GMethod
  fAt : Int
def mGClass : GClass → Nat
  | ⟨_, _, _, _, _, z5, _⟩ => 1 + mLGMethod z5
def mLGClass : List GClass → Nat
  | [] => 0
  | x :: l => mGClass x + mLGClass l
abbrev eGClass (x : GClass) : List PV := [.str x.fName, .vs 1 (List.map eS x.fParams), .str x.fSuper, .vs 2 (List.map eGOwner x.fAbove), .vs 13 (List.map eGVar x.fFields), .vs 17 (List.map eGMethod x.fMethods), .int .i64 x.fAt]
structure GFault where
  fErr : Int
  fAt : Int
  deriving DecidableEq
abbrev eGFault (x : GFault) : List PV := [.int .i64 x.fErr, .int .i64 x.fAt]
def bGFault (a b : GFault) : Bool := (a.fErr == b.fErr && (a.fAt == b.fAt && true))
def above_up (a0 : List GClass) (a1 : List UInt8) : Option ((List GClass) × (List UInt8)) :=
  some (a0, a1)
def slices_IndexFunc_api_Class_L1 (a0 : List GClass) (q1 : GClass → Option Bool) : Nat → Int → Option (Ctl (Int) (Unit))
  | 0, _ => none
  | n + 1, x11 =>
    if (decide (x11 < (a0.length : Int))) = true then
      Option.bind (idx a0 x11) fun (y28 : GClass) =>
      Option.bind (q1 y28) fun (y30 : Bool) =>
      if y30 = true then
        some (.stop x11)
      else
        slices_IndexFunc_api_Class_L1 a0 q1 n (w_i64 (x11 + 1))
    else
      some (.next ())
def slices_IndexFunc_api_Class (a0 : List GClass) (q1 : GClass → Option Bool) : Option Int :=
  Option.bind (slices_IndexFunc_api_Class_L1 a0 q1 ((((a0.length : Int) : Int) - (0)).toNat + 1) 0) fun lr34 =>
  Ctl.elim lr34 (fun v => some v) fun _ =>
  some (-1)
def table_Find_1 (a0 : GClass) (c0 : List UInt8) : Option Bool :=
  some (a0.fName == c0)
def table_Find (a0 : List GClass) (a1 : List UInt8) : Option Int :=
  Option.bind (slices_IndexFunc_api_Class a0 (fun (z1 : GClass) => table_Find_1 z1 a1)) fun (y2 : Int) =>
  some y2
def above_up_1_L1 (c0 : List GClass) (sp : Nat) (rows : List (Int)) : Nat → Nat → (List UInt8) → Int → Option (Ctl (Nat) (Nat))
  | 0, _, _, _ => none
  | n + 1, x19, x20, x21 =>
    if (decide (x21 < (w_i64 ((c0.length : Int) + 1)))) = true then
      Option.bind (table_Find c0 x20) fun (y46 : Int) =>
      Option.bind (if (decide (y46 < 0)) = true then
        some (x19, true)
      else
        Option.bind (yck rows sp x19 y46) fun (u49 : Unit) =>
        some ((x19 + 1), (!(!(x19 == sp)))) : Option (Nat × Bool)) fun (x51, x52) =>
      if x52 = true then
        some (.stop x51)
      else
        Option.bind (idx c0 y46) fun (y58 : GClass) =>
        if (y58.fSuper == []) = true then
          some (.stop x51)
        else
          above_up_1_L1 c0 sp rows n x51 y58.fSuper (w_i64 (x21 + 1))
    else
      some (.next x19)
def above_up_1 (rows : List (Int)) (sp : Nat) (c0 : List GClass) (c1 : List UInt8) : Option Nat :=
  Option.bind (above_up_1_L1 c0 sp rows ((((w_i64 ((c0.length : Int) + 1)) : Int) - (0)).toNat + 1) 0 c1 0) fun lr65 =>
  Ctl.elim lr65 (fun v => some v) fun x64 =>
  some x64
def itR_up_n (p : List GClass) : Nat → List UInt8 → Option (List Int)
  | 0, _ => some []
  | n + 1, name => Option.bind (table_Find p name) fun i =>
    if i < 0 then some [] else
    Option.bind (idx p i) fun c =>
    if c.fSuper == [] then some [i] else
    Option.bind (itR_up_n p n c.fSuper) fun l => some (i :: l)
def itR_up (p : List GClass) (name : List UInt8) : Option (List Int) := if p.length < 9223372036854775806 then itR_up_n p (p.length + 1) name else none
def above_Check_B2  : Int → Int → Option (Ctl Unit Int)
  | x64, x61 =>
    some (.next (w_i64 (x61 + 1)))
def above_Check_L1 (a0 : List GClass) : Nat → Int → Option (Ctl (GFault) (Unit))
  | 0, _ => none
  | n + 1, x25 =>
    if (decide (x25 < (a0.length : Int))) = true then
      Option.bind (idx a0 x25) fun (y54 : GClass) =>
      Option.bind (above_up a0 y54.fName) fun (y58 : (List GClass) × (List UInt8)) =>
      Option.bind (itR_up y58.1 y58.2) fun (rows66 : List (Int)) =>
      Option.bind (runs above_Check_B2 rows66 0) fun (lr68 : Ctl Unit Int) =>
      Ctl.elim lr68 (fun _ => none) (fun x61 =>
        if (decide (x61 > (a0.length : Int))) = true then
          some (.stop ({ fErr := 9, fAt := y54.fAt } : GFault))
        else
          above_Check_L1 a0 n (w_i64 (x25 + 1)))
    else
      some (.next ())
def above_Check (a0 : List GClass) : Option GFault :=
  Option.bind (above_Check_L1 a0 ((((a0.length : Int) : Int) - (0)).toNat + 1) 0) fun lr76 =>
  Ctl.elim lr76 (fun v => some v) fun _ =>
  some ({ fErr := 0, fAt := 0 } : GFault)
def slices_Index_int_L1 (a0 : List Int) (a1 : Int) : Nat → Int → Option (Ctl (Int) (Unit))
  | 0, _ => none
  | n + 1, x7 =>
    if (decide (x7 < (a0.length : Int))) = true then
      Option.bind (idx a0 x7) fun (y18 : Int) =>
      if (a1 == y18) = true then
        some (.stop x7)
      else
        slices_Index_int_L1 a0 a1 n (w_i64 (x7 + 1))
    else
      some (.next ())
def slices_Index_int (a0 : List Int) (a1 : Int) : Option Int :=
  Option.bind (slices_Index_int_L1 a0 a1 ((((a0.length : Int) : Int) - (0)).toNat + 1) 0) fun lr22 =>
  Ctl.elim lr22 (fun v => some v) fun _ =>
  some (-1)
def slices_Contains_int (a0 : List Int) (a1 : Int) : Option Bool :=
  Option.bind (slices_Index_int a0 a1) fun (y1 : Int) =>
  some (decide (y1 ≥ 0))
def above_Chain_B1  : Int → (List Int) → Option (Ctl (List Int) (List Int))
  | x23, x13 =>
    Option.bind (slices_Contains_int x13 x23) fun (y26 : Bool) =>
    if y26 = true then
      some (.stop x13)
    else
      Option.bind (room ((x13.length : Int) + ([x23].length : Int)) 8) fun (u29 : Unit) =>
      some (.next (x13 ++ [x23]))
def above_Chain (a0 : List GClass) (a1 : List UInt8) : Option (List Int) :=
  Option.bind (above_up a0 a1) fun (y3 : (List GClass) × (List UInt8)) =>
  Option.bind (itR_up y3.1 y3.2) fun (rows33 : List (Int)) =>
  Option.bind (runs above_Chain_B1 rows33 []) fun (lr35 : Ctl (List Int) (List Int)) =>
  Ctl.elim lr35 (fun x32 =>
    some x32) (fun x13 =>
    some x13)
def law14_awake  : Option Bool :=
  Option.bind (above_Check [({ fName := [65], fParams := [], fSuper := [66], fAbove := [], fFields := [], fMethods := [], fAt := 0 } : GClass), ({ fName := [66], fParams := [], fSuper := [65], fAbove := [], fFields := [], fMethods := [], fAt := 9 } : GClass)]) fun (y1 : GFault) =>
  if (bGFault y1 ({ fErr := 9, fAt := 0 } : GFault)) = true then
    Option.bind (cutL [({ fName := [65], fParams := [], fSuper := [66], fAbove := [], fFields := [], fMethods := [], fAt := 0 } : GClass), ({ fName := [66], fParams := [], fSuper := [65], fAbove := [], fFields := [], fMethods := [], fAt := 9 } : GClass)] 1 [({ fName := [65], fParams := [], fSuper := [66], fAbove := [], fFields := [], fMethods := [], fAt := 0 } : GClass), ({ fName := [66], fParams := [], fSuper := [65], fAbove := [], fFields := [], fMethods := [], fAt := 9 } : GClass)].length) fun (y4 : List GClass) =>
    Option.bind (above_Check y4) fun (y6 : GFault) =>
    if (bGFault y6 ({ fErr := 0, fAt := 0 } : GFault)) = true then
      Option.bind (above_Chain [({ fName := [65], fParams := [], fSuper := [66], fAbove := [], fFields := [], fMethods := [], fAt := 0 } : GClass), ({ fName := [66], fParams := [], fSuper := [65], fAbove := [], fFields := [], fMethods := [], fAt := 9 } : GClass)] [65]) fun (y9 : (List Int)) =>
      some ((y9.length : Int) == 2)
    else
      some false
  else
    some false
def above_Below_B1 (y3 : Int) : Int → Unit → Option (Ctl Unit Unit)
  | x13, _ =>
    if (x13 == y3) = true then
      some (.stop ())
    else
      some (.next ())
def above_Below (a0 : List GClass) (a1 : List UInt8) (a2 : List UInt8) : Option Bool :=
  Option.bind (table_Find a0 a2) fun (y3 : Int) =>
  Option.bind (above_up a0 a1) fun (y7 : (List GClass) × (List UInt8)) =>
  Option.bind (itR_up y7.1 y7.2) fun (rows15 : List (Int)) =>
  Option.bind (runs (above_Below_B1 y3) rows15 ()) fun (lr17 : Ctl Unit Unit) =>
  Ctl.elim lr17 (fun _ =>
    some true) (fun _ =>
    some false)
def above_Meet_B1 (a0 : List GClass) (a2 : List UInt8) : Int → Unit → Option (Ctl (List UInt8) Unit)
  | x29, _ =>
    Option.bind (above_Chain a0 a2) fun (y34 : (List Int)) =>
    Option.bind (slices_Contains_int y34 x29) fun (y36 : Bool) =>
    if y36 = true then
      Option.bind (idx a0 x29) fun (y39 : GClass) =>
      some (.stop y39.fName)
    else
      some (.next ())
def above_Meet (a0 : List GClass) (a1 : List UInt8) (a2 : List UInt8) : Option (List UInt8) :=
  Option.bind (above_up a0 a1) fun (y3 : (List GClass) × (List UInt8)) =>
  Option.bind (itR_up y3.1 y3.2) fun (rows42 : List (Int)) =>
  Option.bind (runs (above_Meet_B1 a0 a2) rows42 ()) fun (lr44 : Ctl (List UInt8) Unit) =>
  Ctl.elim lr44 (fun x41 =>
    some x41) (fun _ =>
    some [])
def law14_AboveOrder (a0 : List GClass) (a1 : A3 (List UInt8)) : Option Bool :=
  if (decide ((a0.length : Int) > 40)) = true then
    Option.bind law14_awake fun (y2 : Bool) =>
    some y2
  else
    Option.bind (above_Below a0 a1.a0 a1.a1) fun (y8 : Bool) =>
    Option.bind (above_Below a0 a1.a1 a1.a2) fun (y10 : Bool) =>
    Option.bind (if y8 = true then
      if y10 = true then
        Option.bind (above_Below a0 a1.a0 a1.a2) fun (y14 : Bool) =>
        if (!y14) = true then
          some true
        else
          Option.bind (above_Below a0 a1.a0 a1.a0) fun (y17 : Bool) =>
          Option.bind (above_Chain a0 a1.a0) fun (y19 : (List Int)) =>
          some (!(y17 == (decide ((y19.length : Int) > 0))))
      else
        Option.bind (above_Below a0 a1.a0 a1.a0) fun (y21 : Bool) =>
        Option.bind (above_Chain a0 a1.a0) fun (y23 : (List Int)) =>
        some (!(y21 == (decide ((y23.length : Int) > 0))))
    else
      Option.bind (above_Below a0 a1.a0 a1.a0) fun (y25 : Bool) =>
      Option.bind (above_Chain a0 a1.a0) fun (y27 : (List Int)) =>
      some (!(y25 == (decide ((y27.length : Int) > 0)))) : Option (Bool)) fun x29 =>
    if x29 = true then
      some false
    else
      Option.bind (above_Meet a0 a1.a0 a1.a1) fun (y35 : (List UInt8)) =>
      Option.bind (if (!(y35 == [])) = true then
        Option.bind (above_Below a0 a1.a0 y35) fun (y38 : Bool) =>
        if (!y38) = true then
          some true
        else
          Option.bind (above_Below a0 a1.a1 y35) fun (y41 : Bool) =>
          some (!y41)
      else
        some false : Option (Bool)) fun x43 =>
      if x43 = true then
        some false
      else
        Option.bind (above_Check a0) fun (y47 : GFault) =>
        if (y47.fErr != 0) = true then
          Option.bind law14_awake fun (y50 : Bool) =>
          some y50
        else
          if (a1.a0 == a1.a1) = true then
            Option.bind law14_awake fun (y53 : Bool) =>
            some y53
          else
            if (!y8) = true then
              Option.bind law14_awake fun (y56 : Bool) =>
              some y56
            else
              Option.bind (above_Below a0 a1.a1 a1.a0) fun (y58 : Bool) =>
              if (!y58) = true then
                Option.bind law14_awake fun (y61 : Bool) =>
                some y61
              else
                some false
end
end Go.Proofs.Ytpbbeljmmabeeaa
