/- A part of the proof that the law UnderIs gives true for every input. -/
import Derived.Test.YtkfgkkbfipgklaaAbsBC
/- The types and the plain functions. -/
namespace Go.Proofs.Ytkfgkkbfipgklaa
open Go.RowKit Go.Abs
noncomputable section
structure GOwner where
  fKind : Int
  fN : Int
  deriving DecidableEq
abbrev zGOwner : GOwner := ({ fKind := 0, fN := 0 } : GOwner)
abbrev eGOwner (x : GOwner) : List PV := [.int .i64 x.fKind, .int .i64 x.fN]
structure GType where
  fKind : Int
  fClass : List UInt8
  fN : Int
  fOwn : A4 GOwner
  deriving DecidableEq
abbrev zGType : GType := ({ fKind := 0, fClass := [], fN := 0, fOwn := (⟨zGOwner, zGOwner, zGOwner, zGOwner⟩ : A4 GOwner) } : GType)
abbrev eGType (x : GType) : List PV := [.int .i64 x.fKind, .str x.fClass, .int .i64 x.fN, .int .i64 x.fOwn.a0.fKind, .int .i64 x.fOwn.a0.fN, .int .i64 x.fOwn.a1.fKind, .int .i64 x.fOwn.a1.fN, .int .i64 x.fOwn.a2.fKind, .int .i64 x.fOwn.a2.fN, .int .i64 x.fOwn.a3.fKind, .int .i64 x.fOwn.a3.fN]
structure GVar where
  fName : List UInt8
  fType : GType
  fAt : Int
  deriving DecidableEq
abbrev zGVar : GVar := ({ fName := [], fType := zGType, fAt := 0 } : GVar)
abbrev eGVar (x : GVar) : List PV := [.str x.fName, .int .i64 x.fType.fKind, .str x.fType.fClass, .int .i64 x.fType.fN, .int .i64 x.fType.fOwn.a0.fKind, .int .i64 x.fType.fOwn.a0.fN, .int .i64 x.fType.fOwn.a1.fKind, .int .i64 x.fType.fOwn.a1.fN, .int .i64 x.fType.fOwn.a2.fKind, .int .i64 x.fType.fOwn.a2.fN, .int .i64 x.fType.fOwn.a3.fKind, .int .i64 x.fType.fOwn.a3.fN, .int .i64 x.fAt]
structure GExpr where
  fKind : Int
  fNum : Int
  fName : List UInt8
  fKids : List GExpr
abbrev zGExpr : GExpr := ({ fKind := 0, fNum := 0, fName := [], fKids := [] } : GExpr)
mutual
def rGExpr : GExpr → List PV
  | ⟨z0, z1, z2, z3⟩ => [.int .i64 z0, .int .i64 z1, .str z2, .vs 4 (eLGExpr z3)]
def eLGExpr : List GExpr → List (List PV)
  | [] => []
  | x :: l => rGExpr x :: eLGExpr l
end
abbrev eGExpr (x : GExpr) : List PV := [.int .i64 x.fKind, .int .i64 x.fNum, .str x.fName, .vs 4 (eLGExpr x.fKids)]
theorem rGExpr_eq (x : GExpr) : rGExpr x = eGExpr x := by cases x; simp only [rGExpr]
theorem eLGExpr_map : ∀ l : List GExpr, eLGExpr l = l.map eGExpr
  | [] => by simp only [eLGExpr, List.map_nil]
  | x :: l => by simp only [eLGExpr, List.map_cons, rGExpr_eq, eLGExpr_map l]
mutual
def mGExpr : GExpr → Nat
  | ⟨_, _, _, z3⟩ => 1 + mLGExpr z3
def mLGExpr : List GExpr → Nat
  | [] => 0
  | x :: l => mGExpr x + mLGExpr l
end
structure GStmt where
  fKind : Int
  fX : List UInt8
  fY : List UInt8
  fName : List UInt8
  fType : GType
  fE : GExpr
  fArgs : List GExpr
  fBody : List GStmt
  fElse : List GStmt
  fAt : Int
abbrev zGStmt : GStmt := ({ fKind := 0, fX := [], fY := [], fName := [], fType := zGType, fE := zGExpr, fArgs := [], fBody := [], fElse := [], fAt := 0 } : GStmt)
mutual
def rGStmt : GStmt → List PV
  | ⟨z0, z1, z2, z3, z4, z5, z6, z7, z8, z9⟩ => [.int .i64 z0, .str z1, .str z2, .str z3, .int .i64 z4.fKind, .str z4.fClass, .int .i64 z4.fN, .int .i64 z4.fOwn.a0.fKind, .int .i64 z4.fOwn.a0.fN, .int .i64 z4.fOwn.a1.fKind, .int .i64 z4.fOwn.a1.fN, .int .i64 z4.fOwn.a2.fKind, .int .i64 z4.fOwn.a2.fN, .int .i64 z4.fOwn.a3.fKind, .int .i64 z4.fOwn.a3.fN, .int .i64 z5.fKind, .int .i64 z5.fNum, .str z5.fName, .vs 4 (eLGExpr z5.fKids), .vs 4 (eLGExpr z6), .vs 23 (eLGStmt z7), .vs 23 (eLGStmt z8), .int .i64 z9]
def eLGStmt : List GStmt → List (List PV)
  | [] => []
  | x :: l => rGStmt x :: eLGStmt l
end
abbrev eGStmt (x : GStmt) : List PV := [.int .i64 x.fKind, .str x.fX, .str x.fY, .str x.fName, .int .i64 x.fType.fKind, .str x.fType.fClass, .int .i64 x.fType.fN, .int .i64 x.fType.fOwn.a0.fKind, .int .i64 x.fType.fOwn.a0.fN, .int .i64 x.fType.fOwn.a1.fKind, .int .i64 x.fType.fOwn.a1.fN, .int .i64 x.fType.fOwn.a2.fKind, .int .i64 x.fType.fOwn.a2.fN, .int .i64 x.fType.fOwn.a3.fKind, .int .i64 x.fType.fOwn.a3.fN, .int .i64 x.fE.fKind, .int .i64 x.fE.fNum, .str x.fE.fName, .vs 4 (eLGExpr x.fE.fKids), .vs 4 (eLGExpr x.fArgs), .vs 23 (eLGStmt x.fBody), .vs 23 (eLGStmt x.fElse), .int .i64 x.fAt]
theorem rGStmt_eq (x : GStmt) : rGStmt x = eGStmt x := by cases x; simp only [rGStmt]
theorem eLGStmt_map : ∀ l : List GStmt, eLGStmt l = l.map eGStmt
  | [] => by simp only [eLGStmt, List.map_nil]
  | x :: l => by simp only [eLGStmt, List.map_cons, rGStmt_eq, eLGStmt_map l]
mutual
def mGStmt : GStmt → Nat
  | ⟨_, _, _, _, _, z5, z6, z7, z8, _⟩ => 1 + mGExpr z5 + mLGExpr z6 + mLGStmt z7 + mLGStmt z8
def mLGStmt : List GStmt → Nat
  | [] => 0
  | x :: l => mGStmt x + mLGStmt l
end
structure GMethod where
  fName : List UInt8
  fPure : Bool
  fRet : GType
  fParams : List GVar
  fLocals : List GVar
  fBody : List GStmt
  fAt : Int
abbrev zGMethod : GMethod := ({ fName := [], fPure := false, fRet := zGType, fParams := [], fLocals := [], fBody := [], fAt := 0 } : GMethod)
def mGMethod : GMethod → Nat
  | ⟨_, _, _, _, _, z5, _⟩ => 1 + mLGStmt z5
def mLGMethod : List GMethod → Nat
  | [] => 0
  | x :: l => mGMethod x + mLGMethod l
abbrev eGMethod (x : GMethod) : List PV := [.str x.fName, .bool x.fPure, .int .i64 x.fRet.fKind, .str x.fRet.fClass, .int .i64 x.fRet.fN, .int .i64 x.fRet.fOwn.a0.fKind, .int .i64 x.fRet.fOwn.a0.fN, .int .i64 x.fRet.fOwn.a1.fKind, .int .i64 x.fRet.fOwn.a1.fN, .int .i64 x.fRet.fOwn.a2.fKind, .int .i64 x.fRet.fOwn.a2.fN, .int .i64 x.fRet.fOwn.a3.fKind, .int .i64 x.fRet.fOwn.a3.fN, .vs 13 (List.map eGVar x.fParams), .vs 13 (List.map eGVar x.fLocals), .vs 23 (eLGStmt x.fBody), .int .i64 x.fAt]
structure GClass where
  fName : List UInt8
  fParams : List (List UInt8)
  fSuper : List UInt8
  fAbove : List GOwner
  fFields : List GVar
  fMethods : List GMethod
  fAt : Int
abbrev zGClass : GClass := ({ fName := [], fParams := [], fSuper := [], fAbove := [], fFields := [], fMethods := [], fAt := 0 } : GClass)
def mGClass : GClass → Nat
  | ⟨_, _, _, _, _, z5, _⟩ => 1 + mLGMethod z5
def mLGClass : List GClass → Nat
  | [] => 0
  | x :: l => mGClass x + mLGClass l
abbrev eGClass (x : GClass) : List PV := [.str x.fName, .vs 1 (List.map eS x.fParams), .str x.fSuper, .vs 2 (List.map eGOwner x.fAbove), .vs 13 (List.map eGVar x.fFields), .vs 17 (List.map eGMethod x.fMethods), .int .i64 x.fAt]
def bGOwner (a b : GOwner) : Bool := (a.fKind == b.fKind && (a.fN == b.fN && true))
def law27_great_L1 (a0 : List GClass) : Nat → Int → Option (Ctl (Bool) (Unit))
  | 0, _ => none
  | n + 1, x13 =>
    if (decide (x13 < (a0.length : Int))) = true then
      Option.bind (Option.bind (idx a0 x13) fun (y30 : GClass) =>
      if (decide ((y30.fAbove.length : Int) > 20)) = true then
        some true
      else
        Option.bind (idx a0 x13) fun (y33 : GClass) =>
        some (decide ((y33.fParams.length : Int) > 20)) : Option (Bool)) fun x35 =>
      if x35 = true then
        some (.stop true)
      else
        law27_great_L1 a0 n (w_i64 (x13 + 1))
    else
      some (.next ())
def law27_great (a0 : List GClass) : Option Bool :=
  Option.bind (law27_great_L1 a0 ((((a0.length : Int) : Int) - (0)).toNat + 1) 0) fun lr40 =>
  Ctl.elim lr40 (fun v => some v) fun _ =>
  some (decide ((a0.length : Int) > 30))
def kind_own (a0 : GType) : Option (List GOwner) :=
  Option.bind (cutL (a0.fOwn).l 0 (w_i64 ((if (if 3 < a0.fN then 3 else a0.fN) > 0 then (if 3 < a0.fN then 3 else a0.fN) else 0) + 1))) fun (y1 : List GOwner) =>
  some y1
def slices_Clone_api_Owner (a0 : List GOwner) : Option (List GOwner) :=
  Option.bind (room ((([] : List GOwner).length : Int) + (a0.length : Int)) 16) fun _ =>
  some a0
def kind_Owners (a0 : GType) : Option (List GOwner) :=
  if (a0.fKind != 2) = true then
    some []
  else
    Option.bind (kind_own a0) fun (y2 : (List GOwner)) =>
    Option.bind (slices_Clone_api_Owner y2) fun (y4 : List GOwner) =>
    some y4
def under_of (a0 : List Int) : Option (List Int) :=
  some a0
def slices_IndexFunc_api_Owner_L1 (a0 : List GOwner) (q1 : GOwner → Option Bool) : Nat → Int → Option (Ctl (Int) (Unit))
  | 0, _ => none
  | n + 1, x11 =>
    if (decide (x11 < (a0.length : Int))) = true then
      Option.bind (idx a0 x11) fun (y28 : GOwner) =>
      Option.bind (q1 y28) fun (y30 : Bool) =>
      if y30 = true then
        some (.stop x11)
      else
        slices_IndexFunc_api_Owner_L1 a0 q1 n (w_i64 (x11 + 1))
    else
      some (.next ())
def slices_IndexFunc_api_Owner (a0 : List GOwner) (q1 : GOwner → Option Bool) : Option Int :=
  Option.bind (slices_IndexFunc_api_Owner_L1 a0 q1 ((((a0.length : Int) : Int) - (0)).toNat + 1) 0) fun lr34 =>
  Ctl.elim lr34 (fun v => some v) fun _ =>
  some (-1)
def slices_ContainsFunc_api_Owner (a0 : List GOwner) (q1 : GOwner → Option Bool) : Option Bool :=
  Option.bind (slices_IndexFunc_api_Owner a0 q1) fun (y1 : Int) =>
  some (decide (y1 ≥ 0))
def slices_Index_int_L1 (a0 : List Int) (a1 : Int) : Nat → Int → Option (Ctl (Int) (Unit))
  | 0, _ => none
  | n + 1, x7 =>
    if (decide (x7 < (a0.length : Int))) = true then
      Option.bind (idx a0 x7) fun (y18 : Int) =>
      if (a1 == y18) = true then
        some (.stop x7)
      else
        slices_Index_int_L1 a0 a1 n (w_i64 (x7 + 1))
    else
      some (.next ())
def slices_Index_int (a0 : List Int) (a1 : Int) : Option Int :=
  Option.bind (slices_Index_int_L1 a0 a1 ((((a0.length : Int) : Int) - (0)).toNat + 1) 0) fun lr22 =>
  Ctl.elim lr22 (fun v => some v) fun _ =>
  some (-1)
def slices_Contains_int (a0 : List Int) (a1 : Int) : Option Bool :=
  Option.bind (slices_Index_int a0 a1) fun (y1 : Int) =>
  some (decide (y1 ≥ 0))
def under_of_1 (a0 : GOwner) (c0 : List Int) : Option Bool :=
  Option.bind (slices_Contains_int c0 a0.fKind) fun (y1 : Bool) =>
  some y1
def under_dim (a0 : GType) : Option Bool :=
  Option.bind (kind_Owners a0) fun (y3 : (List GOwner)) =>
  Option.bind (under_of [8, 7]) fun (y5 : (List Int)) =>
  Option.bind (slices_ContainsFunc_api_Owner y3 (fun (z7 : GOwner) => under_of_1 z7 y5)) fun (y8 : Bool) =>
  if y8 = true then
    some true
  else
    if (decide ((y3.length : Int) > 1)) = true then
      Option.bind (cutL y3 1 y3.length) fun (y12 : List GOwner) =>
      Option.bind (under_of [5]) fun (y14 : (List Int)) =>
      Option.bind (slices_ContainsFunc_api_Owner y12 (fun (z16 : GOwner) => under_of_1 z16 y14)) fun (y17 : Bool) =>
      some y17
    else
      some false
def slices_IndexFunc_api_Class_L1 (a0 : List GClass) (q1 : GClass → Option Bool) : Nat → Int → Option (Ctl (Int) (Unit))
  | 0, _ => none
  | n + 1, x11 =>
    if (decide (x11 < (a0.length : Int))) = true then
      Option.bind (idx a0 x11) fun (y28 : GClass) =>
      Option.bind (q1 y28) fun (y30 : Bool) =>
      if y30 = true then
        some (.stop x11)
      else
        slices_IndexFunc_api_Class_L1 a0 q1 n (w_i64 (x11 + 1))
    else
      some (.next ())
def slices_IndexFunc_api_Class (a0 : List GClass) (q1 : GClass → Option Bool) : Option Int :=
  Option.bind (slices_IndexFunc_api_Class_L1 a0 q1 ((((a0.length : Int) : Int) - (0)).toNat + 1) 0) fun lr34 =>
  Ctl.elim lr34 (fun v => some v) fun _ =>
  some (-1)
def table_Find_1 (a0 : GClass) (c0 : List UInt8) : Option Bool :=
  some (a0.fName == c0)
def table_Find (a0 : List GClass) (a1 : List UInt8) : Option Int :=
  Option.bind (slices_IndexFunc_api_Class a0 (fun (z1 : GClass) => table_Find_1 z1 a1)) fun (y2 : Int) =>
  some y2
def above_up (a0 : List GClass) (a1 : List UInt8) : Option ((List GClass) × (List UInt8)) :=
  some (a0, a1)
def above_up_1_L1 (c0 : List GClass) (sp : Nat) (rows : List (Int)) : Nat → Nat → (List UInt8) → Int → Option (Ctl (Nat) (Nat))
  | 0, _, _, _ => none
  | n + 1, x19, x20, x21 =>
    if (decide (x21 < (w_i64 ((c0.length : Int) + 1)))) = true then
      Option.bind (table_Find c0 x20) fun (y46 : Int) =>
      Option.bind (if (decide (y46 < 0)) = true then
        some (x19, true)
      else
        Option.bind (yck rows sp x19 y46) fun (u49 : Unit) =>
        some ((x19 + 1), (!(!(x19 == sp)))) : Option (Nat × Bool)) fun (x51, x52) =>
      if x52 = true then
        some (.stop x51)
      else
        Option.bind (idx c0 y46) fun (y58 : GClass) =>
        if (y58.fSuper == []) = true then
          some (.stop x51)
        else
          above_up_1_L1 c0 sp rows n x51 y58.fSuper (w_i64 (x21 + 1))
    else
      some (.next x19)
def above_up_1 (rows : List (Int)) (sp : Nat) (c0 : List GClass) (c1 : List UInt8) : Option Nat :=
  Option.bind (above_up_1_L1 c0 sp rows ((((w_i64 ((c0.length : Int) + 1)) : Int) - (0)).toNat + 1) 0 c1 0) fun lr65 =>
  Ctl.elim lr65 (fun v => some v) fun x64 =>
  some x64
def itR_up_n (p : List GClass) : Nat → List UInt8 → Option (List Int)
  | 0, _ => some []
  | n + 1, name => Option.bind (table_Find p name) fun i =>
    if i < 0 then some [] else
    Option.bind (idx p i) fun c =>
    if c.fSuper == [] then some [i] else
    Option.bind (itR_up_n p n c.fSuper) fun l => some (i :: l)
def itR_up (p : List GClass) (name : List UInt8) : Option (List Int) := if p.length < 9223372036854775806 then itR_up_n p (p.length + 1) name else none
def above_Below_B1 (y3 : Int) : Int → Unit → Option (Ctl Unit Unit)
  | x13, _ =>
    if (x13 == y3) = true then
      some (.stop ())
    else
      some (.next ())
def above_Below (a0 : List GClass) (a1 : List UInt8) (a2 : List UInt8) : Option Bool :=
  Option.bind (table_Find a0 a2) fun (y3 : Int) =>
  Option.bind (above_up a0 a1) fun (y7 : (List GClass) × (List UInt8)) =>
  Option.bind (itR_up y7.1 y7.2) fun (rows15 : List (Int)) =>
  Option.bind (runs (above_Below_B1 y3) rows15 ()) fun (lr17 : Ctl Unit Unit) =>
  Ctl.elim lr17 (fun _ =>
    some true) (fun _ =>
    some false)
def table_Arity (a0 : List GClass) (a1 : List UInt8) : Option Int :=
  Option.bind (table_Find a0 a1) fun (y3 : Int) =>
  if (decide (y3 < 0)) = true then
    some (-1)
  else
    Option.bind (idx a0 y3) fun (y6 : GClass) =>
    some (y6.fParams.length : Int)
def above_Chain_B1  : Int → (List Int) → Option (Ctl (List Int) (List Int))
  | x23, x13 =>
    Option.bind (slices_Contains_int x13 x23) fun (y26 : Bool) =>
    if y26 = true then
      some (.stop x13)
    else
      Option.bind (room ((x13.length : Int) + ([x23].length : Int)) 8) fun (u29 : Unit) =>
      some (.next (x13 ++ [x23]))
def above_Chain (a0 : List GClass) (a1 : List UInt8) : Option (List Int) :=
  Option.bind (above_up a0 a1) fun (y3 : (List GClass) × (List UInt8)) =>
  Option.bind (itR_up y3.1 y3.2) fun (rows33 : List (Int)) =>
  Option.bind (runs above_Chain_B1 rows33 []) fun (lr35 : Ctl (List Int) (List Int)) =>
  Ctl.elim lr35 (fun x32 =>
    some x32) (fun x13 =>
    some x13)
def raise_raise_api_Owner__L2 (q4 : GOwner → (List GOwner) → Option GOwner) (x96 : List GOwner) (y187 : GClass) : Nat → (List GOwner) → Int → Option ((List GOwner))
  | 0, _, _ => none
  | n + 1, x216, x217 =>
    if (decide (x217 < (y187.fAbove.length : Int))) = true then
      Option.bind (idx y187.fAbove x217) fun (y236 : GOwner) =>
      Option.bind (q4 y236 x96) fun (y242 : GOwner) =>
      Option.bind (room ((x216.length : Int) + ([y242].length : Int)) 16) fun (u244 : Unit) =>
      raise_raise_api_Owner__L2 q4 x96 y187 n (x216 ++ [y242]) (w_i64 (x217 + 1))
    else
      some x216
def raise_raise_api_Owner__L1 (a0 : List GClass) (q4 : GOwner → (List GOwner) → Option GOwner) (y3 : Int) (y19 : (List Int)) : Nat → (List GOwner) → Int → Option (Ctl ((List GOwner) × Bool) (Unit))
  | 0, _, _ => none
  | n + 1, x96, x97 =>
    if (decide (x97 < (y19.length : Int))) = true then
      Option.bind (idx y19 x97) fun (y178 : Int) =>
      if (y178 == y3) = true then
        some (.stop (x96, true))
      else
        Option.bind (cutL x96 0 1) fun (y183 : List GOwner) =>
        Option.bind (idx a0 y178) fun (y187 : GClass) =>
        Option.bind (if (decide (0 < (y187.fAbove.length : Int))) = true then
          Option.bind (idx y187.fAbove 0) fun (y192 : GOwner) =>
          Option.bind (q4 y192 x96) fun (y198 : GOwner) =>
          Option.bind (room ((y183.length : Int) + ([y198].length : Int)) 16) fun (u200 : Unit) =>
          raise_raise_api_Owner__L2 q4 x96 y187 ((((y187.fAbove.length : Int) : Int) - ((w_i64 (0 + 1)))).toNat + 1) (y183 ++ [y198]) (w_i64 (0 + 1))
        else
          some y183 : Option ((List GOwner))) fun x248 =>
        raise_raise_api_Owner__L1 a0 q4 y3 y19 n x248 (w_i64 (x97 + 1))
    else
      some (.next ())
def raise_raise_api_Owner_ (a0 : List GClass) (a1 : List UInt8) (a2 : List GOwner) (a3 : List UInt8) (q4 : GOwner → (List GOwner) → Option GOwner) : Option ((List GOwner) × Bool) :=
  Option.bind (table_Find a0 a3) fun (y3 : Int) =>
  Option.bind (if (decide (y3 < 0)) = true then
    some true
  else
    Option.bind (table_Arity a0 a1) fun (y6 : Int) =>
    if ((a2.length : Int) != (w_i64 (y6 + 1))) = true then
      some true
    else
      some ((a2.length : Int) == 0) : Option (Bool)) fun x9 =>
  if x9 = true then
    some ([], false)
  else
    Option.bind (slices_Clone_api_Owner a2) fun (y15 : List GOwner) =>
    Option.bind (above_Chain a0 a1) fun (y19 : (List Int)) =>
    Option.bind (raise_raise_api_Owner__L1 a0 q4 y3 y19 ((((y19.length : Int) : Int) - (0)).toNat + 1) y15 0) fun lr252 =>
    Ctl.elim lr252 (fun v => some v) fun _ =>
    some ([], false)
def owner_Put (a0 : GOwner) (a1 : List GOwner) : Option GOwner :=
  Ctl.go (if (a0.fKind == 3) = true then
    .next a0.fN
  else
    if (a0.fKind == 2) = true then
      .next 0
    else
      .stop (some a0) : Ctl (Option GOwner) (Int)) fun x3 =>
  Option.bind (if (decide (x3 < 0)) = true then
    some true
  else
    some (decide (x3 ≥ (a1.length : Int))) : Option (Bool)) fun x5 =>
  if x5 = true then
    some ({ fKind := 8, fN := 0 } : GOwner)
  else
    Option.bind (idx a1 x3) fun (y9 : GOwner) =>
    some y9
def raise_Raise (a0 : List GClass) (a1 : List UInt8) (a2 : List GOwner) (a3 : List UInt8) : Option ((List GOwner) × Bool) :=
  Option.bind (raise_raise_api_Owner_ a0 a1 a2 a3 (fun (z1 : GOwner) (z2 : List GOwner) => owner_Put z1 z2)) fun (y3 : (List GOwner) × Bool) =>
  some (y3.1, y3.2)
def slices_Equal_api_Owner_L1 (a0 : List GOwner) (a1 : List GOwner) : Nat → Int → Option (Ctl (Bool) (Unit))
  | 0, _ => none
  | n + 1, x12 =>
    if (decide (x12 < (a0.length : Int))) = true then
      Option.bind (idx a0 x12) fun (y29 : GOwner) =>
      Option.bind (idx a1 x12) fun (y31 : GOwner) =>
      if (!(bGOwner y29 y31)) = true then
        some (.stop false)
      else
        slices_Equal_api_Owner_L1 a0 a1 n (w_i64 (x12 + 1))
    else
      some (.next ())
def slices_Equal_api_Owner (a0 : List GOwner) (a1 : List GOwner) : Option Bool :=
  if ((a0.length : Int) != (a1.length : Int)) = true then
    some false
  else
    Option.bind (slices_Equal_api_Owner_L1 a0 a1 ((((a0.length : Int) : Int) - (0)).toNat + 1) 0) fun lr35 =>
    Ctl.elim lr35 (fun v => some v) fun _ =>
    some true
def under_Is (a0 : List GClass) (a1 : GType) (a2 : GType) : Option Bool :=
  if (a1.fKind == 1) = true then
    some (a2.fKind == 1)
  else
    Option.bind (if (a2.fKind != 2) = true then
      some true
    else
      Option.bind (under_dim a2) fun (y3 : Bool) =>
      some y3 : Option (Bool)) fun x5 =>
    if x5 = true then
      some false
    else
      if (a1.fKind != 2) = true then
        some (a1.fKind == 3)
      else
        Option.bind (Option.bind (under_dim a1) fun (y12 : Bool) =>
        if y12 = true then
          some true
        else
          Option.bind (above_Below a0 a1.fClass a2.fClass) fun (y15 : Bool) =>
          some (!y15) : Option (Bool)) fun x17 =>
        if x17 = true then
          some false
        else
          Option.bind (kind_Owners a1) fun (y25 : (List GOwner)) =>
          Option.bind (raise_Raise a0 a1.fClass y25 a2.fClass) fun (y27 : (List GOwner) × Bool) =>
          if (!y27.2) = true then
            some false
          else
            Option.bind (kind_Owners a2) fun (y32 : (List GOwner)) =>
            Option.bind (Option.bind (under_of [6, 8, 7]) fun (y36 : (List Int)) =>
            Option.bind (Option.bind (idx y32 0) fun (y40 : GOwner) =>
            if (y40.fKind == 5) = true then
              Option.bind (idx y27.1 0) fun (y43 : GOwner) =>
              Option.bind (under_of_1 y43 y36) fun (y45 : Bool) =>
              some (!y45)
            else
              some false : Option (Bool)) fun x47 =>
            if x47 = true then
              Option.bind (idx y32 0) fun (y51 : GOwner) =>
              Option.bind (idx y27.1 0) fun (y53 : GOwner) =>
              some (y27.1.set (0 : Int).toNat y51)
            else
              some y27.1 : Option ((List GOwner))) fun x55 =>
            Option.bind (slices_Equal_api_Owner x55 y32) fun (y58 : Bool) =>
            some y58
def law27_awake  : Option Bool :=
  Option.bind (under_Is [({ fName := [65], fParams := [], fSuper := [], fAbove := [], fFields := [], fMethods := [], fAt := 0 } : GClass), ({ fName := [66], fParams := [], fSuper := [65], fAbove := [], fFields := [], fMethods := [], fAt := 0 } : GClass)] ({ fKind := 2, fClass := [66], fN := 0, fOwn := (⟨({ fKind := 1, fN := 0 } : GOwner), zGOwner, zGOwner, zGOwner⟩ : A4 GOwner) } : GType) ({ fKind := 2, fClass := [65], fN := 0, fOwn := (⟨({ fKind := 1, fN := 0 } : GOwner), zGOwner, zGOwner, zGOwner⟩ : A4 GOwner) } : GType)) fun (y1 : Bool) =>
  if y1 = true then
    Option.bind (under_Is [({ fName := [65], fParams := [], fSuper := [], fAbove := [], fFields := [], fMethods := [], fAt := 0 } : GClass), ({ fName := [66], fParams := [], fSuper := [65], fAbove := [], fFields := [], fMethods := [], fAt := 0 } : GClass)] ({ fKind := 2, fClass := [66], fN := 0, fOwn := (⟨({ fKind := 1, fN := 0 } : GOwner), zGOwner, zGOwner, zGOwner⟩ : A4 GOwner) } : GType) ({ fKind := 2, fClass := [65], fN := 0, fOwn := (⟨({ fKind := 5, fN := 0 } : GOwner), zGOwner, zGOwner, zGOwner⟩ : A4 GOwner) } : GType)) fun (y4 : Bool) =>
    if y4 = true then
      Option.bind (under_Is [({ fName := [65], fParams := [], fSuper := [], fAbove := [], fFields := [], fMethods := [], fAt := 0 } : GClass), ({ fName := [66], fParams := [], fSuper := [65], fAbove := [], fFields := [], fMethods := [], fAt := 0 } : GClass)] ({ fKind := 2, fClass := [66], fN := 0, fOwn := (⟨({ fKind := 1, fN := 0 } : GOwner), zGOwner, zGOwner, zGOwner⟩ : A4 GOwner) } : GType) ({ fKind := 2, fClass := [65], fN := 0, fOwn := (⟨({ fKind := 2, fN := 0 } : GOwner), zGOwner, zGOwner, zGOwner⟩ : A4 GOwner) } : GType)) fun (y7 : Bool) =>
      some (!y7)
    else
      some false
  else
    some false
def ref05_count (a0 : GType) : Option Int :=
  some (if (if 3 < a0.fN then 3 else a0.fN) > 0 then (if 3 < a0.fN then 3 else a0.fN) else 0)
def ref05_Owners_L1 (a0 : GType) : Nat → (List GOwner) → Int → Option ((List GOwner))
  | 0, _, _ => none
  | n + 1, x14, x15 =>
    Option.bind (Option.bind (ref05_count a0) fun (y37 : Int) =>
    if (decide (x15 ≤ y37)) = true then
      some (a0.fKind == 2)
    else
      some false : Option (Bool)) fun x40 =>
    if x40 = true then
      Option.bind (idx (a0.fOwn).l x15) fun (y48 : GOwner) =>
      Option.bind (room ((x14.length : Int) + ([y48].length : Int)) 16) fun (u50 : Unit) =>
      ref05_Owners_L1 a0 n (x14 ++ [y48]) (w_i64 (x15 + 1))
    else
      some x14
def ref05_Owners (a0 : GType) : Option (List GOwner) :=
  Option.bind (ref05_Owners_L1 a0 6 [] 0) fun x54 =>
  some x54
def ref27_dim_L1 (y3 : (List GOwner)) : Nat → Int → Option (Ctl (Bool) (Unit))
  | 0, _ => none
  | n + 1, x21 =>
    if (decide (x21 < (y3.length : Int))) = true then
      Option.bind (Option.bind (idx y3 x21) fun (y42 : GOwner) =>
      if (y42.fKind == 8) = true then
        some true
      else
        Option.bind (idx y3 x21) fun (y45 : GOwner) =>
        if (y45.fKind == 7) = true then
          some true
        else
          if (decide (x21 > 0)) = true then
            Option.bind (idx y3 x21) fun (y49 : GOwner) =>
            some (y49.fKind == 5)
          else
            some false : Option (Bool)) fun x51 =>
      if x51 = true then
        some (.stop true)
      else
        ref27_dim_L1 y3 n (w_i64 (x21 + 1))
    else
      some (.next ())
def ref27_dim (a0 : GType) : Option Bool :=
  Option.bind (ref05_Owners a0) fun (y3 : (List GOwner)) =>
  Option.bind (ref27_dim_L1 y3 ((((y3.length : Int) : Int) - (0)).toNat + 1) 0) fun lr56 =>
  Ctl.elim lr56 (fun v => some v) fun _ =>
  some false
def ref13_Find_L1 (a0 : List GClass) (a1 : List UInt8) : Nat → Int → Option (Ctl (Int) (Unit))
  | 0, _ => none
  | n + 1, x7 =>
    if (decide (x7 < (a0.length : Int))) = true then
      Option.bind (idx a0 x7) fun (y18 : GClass) =>
      if (y18.fName == a1) = true then
        some (.stop x7)
      else
        ref13_Find_L1 a0 a1 n (w_i64 (x7 + 1))
    else
      some (.next ())
def ref13_Find (a0 : List GClass) (a1 : List UInt8) : Option Int :=
  Option.bind (ref13_Find_L1 a0 a1 ((((a0.length : Int) : Int) - (0)).toNat + 1) 0) fun lr22 =>
  Ctl.elim lr22 (fun v => some v) fun _ =>
  some (-1)
def ref14_has_L1 (a0 : List Int) (a1 : Int) : Nat → Int → Option (Ctl (Bool) (Unit))
  | 0, _ => none
  | n + 1, x7 =>
    if (decide (x7 < (a0.length : Int))) = true then
      Option.bind (idx a0 x7) fun (y18 : Int) =>
      if (y18 == a1) = true then
        some (.stop true)
      else
        ref14_has_L1 a0 a1 n (w_i64 (x7 + 1))
    else
      some (.next ())
def ref14_has (a0 : List Int) (a1 : Int) : Option Bool :=
  Option.bind (ref14_has_L1 a0 a1 ((((a0.length : Int) : Int) - (0)).toNat + 1) 0) fun lr22 =>
  Ctl.elim lr22 (fun v => some v) fun _ =>
  some false
def ref14_Chain_L1 (a0 : List GClass) : Nat → (List Int) → Int → Option (Ctl ((List Int)) ((List Int)))
  | 0, _, _ => none
  | n + 1, x25, x26 =>
    Option.bind (if (decide (x26 ≥ 0)) = true then
      Option.bind (ref14_has x25 x26) fun (y50 : Bool) =>
      some (!y50)
    else
      some false : Option (Bool)) fun x52 =>
    if x52 = true then
      Option.bind (room ((x25.length : Int) + ([x26].length : Int)) 8) fun (u58 : Unit) =>
      Option.bind (idx a0 x26) fun (y62 : GClass) =>
      if (y62.fSuper == []) = true then
        some (.stop (x25 ++ [x26]))
      else
        Option.bind (idx a0 x26) fun (y65 : GClass) =>
        Option.bind (ref13_Find a0 y65.fSuper) fun (y67 : Int) =>
        ref14_Chain_L1 a0 n (x25 ++ [x26]) y67
    else
      some (.next x25)
def ref14_Chain (a0 : List GClass) (a1 : List UInt8) : Option (List Int) :=
  Option.bind (ref13_Find a0 a1) fun (y3 : Int) =>
  Option.bind (ref14_Chain_L1 a0 (a0.length + 2) [] y3) fun lr72 =>
  Ctl.elim lr72 (fun v => some v) fun x71 =>
  some x71
def ref14_Below (a0 : List GClass) (a1 : List UInt8) (a2 : List UInt8) : Option Bool :=
  Option.bind (ref13_Find a0 a2) fun (y3 : Int) =>
  if (decide (y3 ≥ 0)) = true then
    Option.bind (ref14_Chain a0 a1) fun (y6 : (List Int)) =>
    Option.bind (ref14_has y6 y3) fun (y8 : Bool) =>
    some y8
  else
    some false
def ref13_Arity (a0 : List GClass) (a1 : List UInt8) : Option Int :=
  Option.bind (ref13_Find a0 a1) fun (y3 : Int) =>
  if (decide (y3 < 0)) = true then
    some (-1)
  else
    Option.bind (idx a0 y3) fun (y6 : GClass) =>
    some (y6.fParams.length : Int)
def ref04_Put_L1 (a1 : List GOwner) (x6 : Int) : Nat → Int → Option (Ctl (GOwner) (Unit))
  | 0, _ => none
  | n + 1, x18 =>
    if (decide (x18 < (a1.length : Int))) = true then
      if (x18 == x6) = true then
        Option.bind (idx a1 x18) fun (y26 : GOwner) =>
        some (.stop y26)
      else
        ref04_Put_L1 a1 x6 n (w_i64 (x18 + 1))
    else
      some (.next ())
def ref04_Put (a0 : GOwner) (a1 : List GOwner) : Option GOwner :=
  Option.bind (if (a0.fKind == 2) = true then
    some 0
  else
    some (-1) : Option (Int)) fun x2 =>
  Option.bind (if (a0.fKind == 3) = true then
    some a0.fN
  else
    some x2 : Option (Int)) fun x6 =>
  Option.bind (if (a0.fKind != 2) = true then
    some (a0.fKind != 3)
  else
    some false : Option (Bool)) fun x10 =>
  if x10 = true then
    some a0
  else
    Option.bind (ref04_Put_L1 a1 x6 ((((a1.length : Int) : Int) - (0)).toNat + 1) 0) fun lr29 =>
    Ctl.elim lr29 (fun v => some v) fun _ =>
    some ({ fKind := 8, fN := 0 } : GOwner)
def ref04_All_L1 (a0 : List GOwner) (a1 : List GOwner) : Nat → (List GOwner) → Int → Option ((List GOwner))
  | 0, _, _ => none
  | n + 1, x14, x15 =>
    if (decide (x15 < (a0.length : Int))) = true then
      Option.bind (idx a0 x15) fun (y38 : GOwner) =>
      Option.bind (ref04_Put y38 a1) fun (y40 : GOwner) =>
      Option.bind (room ((x14.length : Int) + ([y40].length : Int)) 16) fun (u42 : Unit) =>
      ref04_All_L1 a0 a1 n (x14 ++ [y40]) (w_i64 (x15 + 1))
    else
      some x14
def ref04_All (a0 : List GOwner) (a1 : List GOwner) : Option (List GOwner) :=
  Option.bind (ref04_All_L1 a0 a1 ((((a0.length : Int) : Int) - (0)).toNat + 1) [] 0) fun x46 =>
  some x46
def ref15_Raise_L1 (a0 : List GClass) (a3 : List UInt8) (y14 : (List Int)) : Nat → (List GOwner) → Int → Option ((List GOwner))
  | 0, _, _ => none
  | n + 1, x55, x56 =>
    Option.bind (idx y14 x56) fun (y98 : Int) =>
    Option.bind (idx a0 y98) fun (y100 : GClass) =>
    if (!(y100.fName == a3)) = true then
      Option.bind (idx x55 0) fun (y119 : GOwner) =>
      Option.bind (idx y14 x56) fun (y121 : Int) =>
      Option.bind (idx a0 y121) fun (y123 : GClass) =>
      Option.bind (ref04_All y123.fAbove x55) fun (y125 : (List GOwner)) =>
      Option.bind (room (([y119].length : Int) + (y125.length : Int)) 16) fun (u127 : Unit) =>
      ref15_Raise_L1 a0 a3 y14 n ([y119] ++ y125) (w_i64 (x56 + 1))
    else
      some x55
def ref15_Raise (a0 : List GClass) (a1 : List UInt8) (a2 : List GOwner) (a3 : List UInt8) : Option ((List GOwner) × Bool) :=
  Option.bind (Option.bind (ref14_Below a0 a1 a3) fun (y3 : Bool) =>
  if (!y3) = true then
    some true
  else
    Option.bind (ref13_Arity a0 a1) fun (y6 : Int) =>
    some ((a2.length : Int) != (w_i64 (y6 + 1))) : Option (Bool)) fun x8 =>
  if x8 = true then
    some ([], false)
  else
    Option.bind (ref14_Chain a0 a1) fun (y14 : (List Int)) =>
    Option.bind (room ((([] : List GOwner).length : Int) + (a2.length : Int)) 16) fun (u18 : Unit) =>
    Option.bind (ref15_Raise_L1 a0 a3 y14 (a0.length + 1) (([] : List GOwner) ++ a2) 0) fun x131 =>
    some (x131, true)
def ref27_Is_L1 (y30 : (List GOwner) × Bool) (y34 : (List GOwner)) : Nat → Int → Option (Ctl (Bool) (Unit))
  | 0, _ => none
  | n + 1, x67 =>
    if (decide (x67 < (y30.1.length : Int))) = true then
      Option.bind (Option.bind (idx y30.1 x67) fun (y100 : GOwner) =>
      Option.bind (idx y34 x67) fun (y102 : GOwner) =>
      if (!(bGOwner y100 y102)) = true then
        if (decide (x67 > 0)) = true then
          some true
        else
          Option.bind (idx y34 0) fun (y106 : GOwner) =>
          if (y106.fKind != 5) = true then
            some true
          else
            Option.bind (idx y30.1 0) fun (y109 : GOwner) =>
            if (y109.fKind == 6) = true then
              some true
            else
              Option.bind (idx y30.1 0) fun (y112 : GOwner) =>
              if (y112.fKind == 8) = true then
                some true
              else
                Option.bind (idx y30.1 0) fun (y115 : GOwner) =>
                some (y115.fKind == 7)
      else
        some false : Option (Bool)) fun x117 =>
      if x117 = true then
        some (.stop false)
      else
        ref27_Is_L1 y30 y34 n (w_i64 (x67 + 1))
    else
      some (.next ())
def ref27_Is (a0 : List GClass) (a1 : GType) (a2 : GType) : Option Bool :=
  Option.bind (if (a1.fKind == 1) = true then
    some (a2.fKind == 1)
  else
    some false : Option (Bool)) fun x2 =>
  if x2 = true then
    some true
  else
    Option.bind (if (a2.fKind != 2) = true then
      some true
    else
      Option.bind (ref27_dim a1) fun (y7 : Bool) =>
      if y7 = true then
        some true
      else
        Option.bind (ref27_dim a2) fun (y10 : Bool) =>
        some y10 : Option (Bool)) fun x12 =>
    if x12 = true then
      some false
    else
      if (a1.fKind == 3) = true then
        some true
      else
        Option.bind (if (a1.fKind != 2) = true then
          some true
        else
          Option.bind (ref14_Below a0 a1.fClass a2.fClass) fun (y18 : Bool) =>
          some (!y18) : Option (Bool)) fun x20 =>
        if x20 = true then
          some false
        else
          Option.bind (ref05_Owners a1) fun (y28 : (List GOwner)) =>
          Option.bind (ref15_Raise a0 a1.fClass y28 a2.fClass) fun (y30 : (List GOwner) × Bool) =>
          Option.bind (ref05_Owners a2) fun (y34 : (List GOwner)) =>
          Option.bind (if (!y30.2) = true then
            some true
          else
            some ((y30.1.length : Int) != (y34.length : Int)) : Option (Bool)) fun x37 =>
          if x37 = true then
            some false
          else
            Option.bind (ref27_Is_L1 y30 y34 ((((y30.1.length : Int) : Int) - (0)).toNat + 1) 0) fun lr122 =>
            Ctl.elim lr122 (fun v => some v) fun _ =>
            some true
def kind_Unique (a0 : GType) : Option Bool :=
  if (a0.fKind == 2) = true then
    some (a0.fOwn.a0.fKind == 6)
  else
    some false
def under_Given (a0 : List GClass) (a1 : GType) (a2 : GType) : Option Bool :=
  Option.bind (under_of [6, 5, 8, 7]) fun (y3 : (List Int)) =>
  Option.bind (Option.bind (kind_Unique a1) fun (y7 : Bool) =>
  if (!y7) = true then
    some true
  else
    if (a2.fKind != 2) = true then
      some true
    else
      Option.bind (under_of_1 a2.fOwn.a0 y3) fun (y11 : Bool) =>
      some y11 : Option (Bool)) fun x13 =>
  if x13 = true then
    some false
  else
    Option.bind (under_Is a0 ({ a1 with fOwn := ({ a1.fOwn with a0 := a2.fOwn.a0 } : A4 GOwner) } : GType) a2) fun (y17 : Bool) =>
    some y17
def ref05_Unique (a0 : GType) : Option Bool :=
  if (a0.fKind == 2) = true then
    some (a0.fOwn.a0.fKind == 6)
  else
    some false
def ref27_Given (a0 : List GClass) (a1 : GType) (a2 : GType) : Option Bool :=
  Option.bind (Option.bind (ref05_Unique a1) fun (y3 : Bool) =>
  if (!y3) = true then
    some true
  else
    if (a2.fKind != 2) = true then
      some true
    else
      if (a2.fOwn.a0.fKind == 6) = true then
        some true
      else
        if (a2.fOwn.a0.fKind == 5) = true then
          some true
        else
          if (a2.fOwn.a0.fKind == 8) = true then
            some true
          else
            some (a2.fOwn.a0.fKind == 7) : Option (Bool)) fun x10 =>
  if x10 = true then
    some false
  else
    Option.bind (ref27_Is a0 ({ a1 with fOwn := ({ a1.fOwn with a0 := a2.fOwn.a0 } : A4 GOwner) } : GType) a2) fun (y14 : Bool) =>
    some y14
def under_Same (a0 : GType) (a1 : GType) : Option Bool :=
  if (a0.fKind != a1.fKind) = true then
    some false
  else
    if (a0.fKind != 2) = true then
      some true
    else
      if (a0.fClass == a1.fClass) = true then
        Option.bind (under_dim a0) fun (y4 : Bool) =>
        if (!y4) = true then
          Option.bind (kind_Owners a0) fun (y7 : (List GOwner)) =>
          Option.bind (kind_Owners a1) fun (y9 : (List GOwner)) =>
          Option.bind (slices_Equal_api_Owner y7 y9) fun (y11 : Bool) =>
          some y11
        else
          some false
      else
        some false
def ref27_Same_L1 (y5 : (List GOwner)) (y7 : (List GOwner)) : Nat → Int → Option (Ctl (Bool) (Unit))
  | 0, _ => none
  | n + 1, x32 =>
    if (decide (x32 < (y5.length : Int))) = true then
      Option.bind (idx y5 x32) fun (y49 : GOwner) =>
      Option.bind (idx y7 x32) fun (y51 : GOwner) =>
      if (!(bGOwner y49 y51)) = true then
        some (.stop false)
      else
        ref27_Same_L1 y5 y7 n (w_i64 (x32 + 1))
    else
      some (.next ())
def ref27_Same (a0 : GType) (a1 : GType) : Option Bool :=
  Option.bind (ref05_Owners a0) fun (y5 : (List GOwner)) =>
  Option.bind (ref05_Owners a1) fun (y7 : (List GOwner)) =>
  Option.bind (if (a0.fKind != a1.fKind) = true then
    some true
  else
    if (a0.fKind == 2) = true then
      if (!(a0.fClass == a1.fClass)) = true then
        some true
      else
        if ((y5.length : Int) != (y7.length : Int)) = true then
          some true
        else
          Option.bind (ref27_dim a0) fun (y13 : Bool) =>
          some y13
    else
      if ((y5.length : Int) != (y7.length : Int)) = true then
        some true
      else
        Option.bind (ref27_dim a0) fun (y16 : Bool) =>
        some y16 : Option (Bool)) fun x18 =>
  if x18 = true then
    some false
  else
    Option.bind (ref27_Same_L1 y5 y7 ((((y5.length : Int) : Int) - (0)).toNat + 1) 0) fun lr55 =>
    Ctl.elim lr55 (fun v => some v) fun _ =>
    some true
def law27_UnderIs (a0 : List GClass) (a1 : GType) (a2 : GType) : Option Bool :=
  Option.bind (law27_great a0) fun (y3 : Bool) =>
  if y3 = true then
    Option.bind law27_awake fun (y6 : Bool) =>
    some y6
  else
    Option.bind (under_Is a0 a1 a2) fun (y8 : Bool) =>
    Option.bind (ref27_Is a0 a1 a2) fun (y10 : Bool) =>
    if (y8 == y10) = true then
      Option.bind (under_Given a0 a1 a2) fun (y13 : Bool) =>
      Option.bind (ref27_Given a0 a1 a2) fun (y15 : Bool) =>
      if (y13 == y15) = true then
        Option.bind (under_Same a1 a2) fun (y18 : Bool) =>
        Option.bind (ref27_Same a1 a2) fun (y20 : Bool) =>
        if (y18 == y20) = true then
          Option.bind law27_awake fun (y23 : Bool) =>
          some y23
        else
          some false
      else
        some false
    else
      some false
end
end Go.Proofs.Ytkfgkkbfipgklaa
