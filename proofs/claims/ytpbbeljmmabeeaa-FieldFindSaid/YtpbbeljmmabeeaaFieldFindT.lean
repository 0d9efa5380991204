/- A part of the proof that the law FieldFind gives true for every input. -/
import Derived.Test.YtpbbeljmmabeeaaAbsX
/- The types and the plain functions. -/
namespace Go.Proofs.Ytpbbeljmmabeeaa
open Go.RowKit Go.Abs
noncomputable section
structure GOwner where
  fKind : Int
  fN : Int
  deriving DecidableEq
abbrev eGOwner (x : GOwner) : List PV := [.int .i64 x.fKind, .int .i64 x.fN]
structure GType where
  fKind : Int
  fClass : List UInt8
  fN : Int
  fOwn : A4 GOwner
  deriving DecidableEq
abbrev eGType (x : GType) : List PV := [.int .i64 x.fKind, .str x.fClass, .int .i64 x.fN, .int .i64 x.fOwn.a0.fKind, .int .i64 x.fOwn.a0.fN, .int .i64 x.fOwn.a1.fKind, .int .i64 x.fOwn.a1.fN, .int .i64 x.fOwn.a2.fKind, .int .i64 x.fOwn.a2.fN, .int .i64 x.fOwn.a3.fKind, .int .i64 x.fOwn.a3.fN]
structure GVar where
  fName : List UInt8
  fType : GType
  fAt : Int
  deriving DecidableEq
abbrev eGVar (x : GVar) : List PV := [.str x.fName, .int .i64 x.fType.fKind, .str x.fType.fClass, .int .i64 x.fType.fN, .int .i64 x.fType.fOwn.a0.fKind, .int .i64 x.fType.fOwn.a0.fN, .int .i64 x.fType.fOwn.a1.fKind, .int .i64 x.fType.fOwn.a1.fN, .int .i64 x.fType.fOwn.a2.fKind, .int .i64 x.fType.fOwn.a2.fN, .int .i64 x.fType.fOwn.a3.fKind, .int .i64 x.fType.fOwn.a3.fN, .int .i64 x.fAt]
structure GExpr where
  fKind : Int
  fNum : Int
  fName : List UInt8
  fKids : List GExpr
mutual
def rGExpr : GExpr → List PV
  | ⟨z0, z1, z2, z3⟩ => [.int .i64 z0, .int .i64 z1, .str z2, .vs 4 (eLGExpr z3)]
def eLGExpr : List GExpr → List (List PV)
  | [] => []
  | x :: l => rGExpr x :: eLGExpr l
end
abbrev eGExpr (x : GExpr) : List PV := [.int .i64 x.fKind, .int .i64 x.fNum, .str x.fName, .vs 4 (eLGExpr x.fKids)]
theorem rGExpr_eq (x : GExpr) : rGExpr x = eGExpr x := by cases x; simp only [rGExpr]
theorem eLGExpr_map : ∀ l : List GExpr, eLGExpr l = l.map eGExpr
  | [] => by simp only [eLGExpr, List.map_nil]
  | x :: l => by simp only [eLGExpr, List.map_cons, rGExpr_eq, eLGExpr_map l]
mutual
def mGExpr : GExpr → Nat
  | ⟨_, _, _, z3⟩ => 1 + mLGExpr z3
def mLGExpr : List GExpr → Nat
  | [] => 0
  | x :: l => mGExpr x + mLGExpr l
end
structure GStmt where
  fKind : Int
  fX : List UInt8
  fY : List UInt8
  fName : List UInt8
  fType : GType
  fE : GExpr
  fArgs : List GExpr
  fBody : List GStmt
  fElse : List GStmt
  fAt : Int
mutual
def rGStmt : GStmt → List PV
  | ⟨z0, z1, z2, z3, z4, z5, z6, z7, z8, z9⟩ => [.int .i64 z0, .str z1, .str z2, .str z3, .int .i64 z4.fKind, .str z4.fClass, .int .i64 z4.fN, .int .i64 z4.fOwn.a0.fKind, .int .i64 z4.fOwn.a0.fN, .int .i64 z4.fOwn.a1.fKind, .int .i64 z4.fOwn.a1.fN, .int .i64 z4.fOwn.a2.fKind, .int .i64 z4.fOwn.a2.fN, .int .i64 z4.fOwn.a3.fKind, .int .i64 z4.fOwn.a3.fN, .int .i64 z5.fKind, .int .i64 z5.fNum, .str z5.fName, .vs 4 (eLGExpr z5.fKids), .vs 4 (eLGExpr z6), .vs 23 (eLGStmt z7), .vs 23 (eLGStmt z8), .int .i64 z9]
def eLGStmt : List GStmt → List (List PV)
  | [] => []
  | x :: l => rGStmt x :: eLGStmt l
end
abbrev eGStmt (x : GStmt) : List PV := [.int .i64 x.fKind, .str x.fX, .str x.fY, .str x.fName, .int .i64 x.fType.fKind, .str x.fType.fClass, .int .i64 x.fType.fN, .int .i64 x.fType.fOwn.a0.fKind, .int .i64 x.fType.fOwn.a0.fN, .int .i64 x.fType.fOwn.a1.fKind, .int .i64 x.fType.fOwn.a1.fN, .int .i64 x.fType.fOwn.a2.fKind, .int .i64 x.fType.fOwn.a2.fN, .int .i64 x.fType.fOwn.a3.fKind, .int .i64 x.fType.fOwn.a3.fN, .int .i64 x.fE.fKind, .int .i64 x.fE.fNum, .str x.fE.fName, .vs 4 (eLGExpr x.fE.fKids), .vs 4 (eLGExpr x.fArgs), .vs 23 (eLGStmt x.fBody), .vs 23 (eLGStmt x.fElse), .int .i64 x.fAt]
theorem rGStmt_eq (x : GStmt) : rGStmt x = eGStmt x := by cases x; simp only [rGStmt]
theorem eLGStmt_map : ∀ l : List GStmt, eLGStmt l = l.map eGStmt
  | [] => by simp only [eLGStmt, List.map_nil]
  | x :: l => by simp only [eLGStmt, List.map_cons, rGStmt_eq, eLGStmt_map l]
mutual
def mGStmt : GStmt → Nat
  | ⟨_, _, _, _, _, z5, z6, z7, z8, _⟩ => 1 + mGExpr z5 + mLGExpr z6 + mLGStmt z7 + mLGStmt z8
def mLGStmt : List GStmt → Nat
  | [] => 0
  | x :: l => mGStmt x + mLGStmt l
end
structure GMethod where
  fName : List UInt8
  fPure : Bool
  fRet : GType
  fParams : List GVar
  fLocals : List GVar
  fBody : List GStmt
  fAt : Int
def mGMethod : GMethod → Nat
  | ⟨_, _, _, _, _, z5, _⟩ => 1 + mLGStmt z5
def mLGMethod : List GMethod → Nat
  | [] => 0
  | x :: l => mGMethod x + mLGMethod l
abbrev eGMethod (x : GMethod) : List PV := [.str x.fName, .bool x.fPure, .int .i64 x.fRet.fKind, .str x.fRet.fClass, .int .i64 x.fRet.fN, .int .i64 x.fRet.fOwn.a0.fKind, .int .i64 x.fRet.fOwn.a0.fN, .int .i64 x.fRet.fOwn.a1.fKind, .int .i64 x.fRet.fOwn.a1.fN, .int .i64 x.fRet.fOwn.a2.fKind, .int .i64 x.fRet.fOwn.a2.fN, .int .i64 x.fRet.fOwn.a3.fKind, .int .i64 x.fRet.fOwn.a3.fN, .vs 13 (List.map eGVar x.fParams), .vs 13 (List.map eGVar x.fLocals), .vs 23 (eLGStmt x.fBody), .int .i64 x.fAt]
structure GClass where
  fName : List UInt8
  fParams : List (List UInt8)
  fSuper : List UInt8
  fAbove : List GOwner
  fFields : List GVar
  fMethods : List GMethod
  fAt : Int
def mGClass : GClass → Nat
  | ⟨_, _, _, _, _, z5, _⟩ => 1 + mLGMethod z5
def mLGClass : List GClass → Nat
  | [] => 0
  | x :: l => mGClass x + mLGClass l
abbrev eGClass (x : GClass) : List PV := [.str x.fName, .vs 1 (List.map eS x.fParams), .str x.fSuper, .vs 2 (List.map eGOwner x.fAbove), .vs 13 (List.map eGVar x.fFields), .vs 17 (List.map eGMethod x.fMethods), .int .i64 x.fAt]
structure GSlot_field where
  fClass : List UInt8
  fVar : GVar
  deriving DecidableEq
abbrev eGSlot_field (x : GSlot_field) : List PV := [.str x.fClass, .str x.fVar.fName, .int .i64 x.fVar.fType.fKind, .str x.fVar.fType.fClass, .int .i64 x.fVar.fType.fN, .int .i64 x.fVar.fType.fOwn.a0.fKind, .int .i64 x.fVar.fType.fOwn.a0.fN, .int .i64 x.fVar.fType.fOwn.a1.fKind, .int .i64 x.fVar.fType.fOwn.a1.fN, .int .i64 x.fVar.fType.fOwn.a2.fKind, .int .i64 x.fVar.fType.fOwn.a2.fN, .int .i64 x.fVar.fType.fOwn.a3.fKind, .int .i64 x.fVar.fType.fOwn.a3.fN, .int .i64 x.fVar.fAt]
structure GSlot_ref16 where
  fClass : List UInt8
  fVar : GVar
  deriving DecidableEq
abbrev eGSlot_ref16 (x : GSlot_ref16) : List PV := [.str x.fClass, .str x.fVar.fName, .int .i64 x.fVar.fType.fKind, .str x.fVar.fType.fClass, .int .i64 x.fVar.fType.fN, .int .i64 x.fVar.fType.fOwn.a0.fKind, .int .i64 x.fVar.fType.fOwn.a0.fN, .int .i64 x.fVar.fType.fOwn.a1.fKind, .int .i64 x.fVar.fType.fOwn.a1.fN, .int .i64 x.fVar.fType.fOwn.a2.fKind, .int .i64 x.fVar.fType.fOwn.a2.fN, .int .i64 x.fVar.fType.fOwn.a3.fKind, .int .i64 x.fVar.fType.fOwn.a3.fN, .int .i64 x.fVar.fAt]
structure GFault where
  fErr : Int
  fAt : Int
  deriving DecidableEq
abbrev eGFault (x : GFault) : List PV := [.int .i64 x.fErr, .int .i64 x.fAt]
def bGSlot_field (a b : GSlot_field) : Bool := (a.fClass == b.fClass && (a.fVar.fName == b.fVar.fName && (a.fVar.fType.fKind == b.fVar.fType.fKind && (a.fVar.fType.fClass == b.fVar.fType.fClass && (a.fVar.fType.fN == b.fVar.fType.fN && (a.fVar.fType.fOwn.a0.fKind == b.fVar.fType.fOwn.a0.fKind && (a.fVar.fType.fOwn.a0.fN == b.fVar.fType.fOwn.a0.fN && (a.fVar.fType.fOwn.a1.fKind == b.fVar.fType.fOwn.a1.fKind && (a.fVar.fType.fOwn.a1.fN == b.fVar.fType.fOwn.a1.fN && (a.fVar.fType.fOwn.a2.fKind == b.fVar.fType.fOwn.a2.fKind && (a.fVar.fType.fOwn.a2.fN == b.fVar.fType.fOwn.a2.fN && (a.fVar.fType.fOwn.a3.fKind == b.fVar.fType.fOwn.a3.fKind && (a.fVar.fType.fOwn.a3.fN == b.fVar.fType.fOwn.a3.fN && (a.fVar.fAt == b.fVar.fAt && true))))))))))))))
def bGFault (a b : GFault) : Bool := (a.fErr == b.fErr && (a.fAt == b.fAt && true))
def law16_great_L1 (a0 : List GClass) : Nat → Int → Option (Ctl (Bool) (Unit))
  | 0, _ => none
  | n + 1, x7 =>
    if (decide (x7 < (a0.length : Int))) = true then
      Option.bind (idx a0 x7) fun (y18 : GClass) =>
      if (decide ((y18.fFields.length : Int) > 40)) = true then
        some (.stop true)
      else
        law16_great_L1 a0 n (w_i64 (x7 + 1))
    else
      some (.next ())
def law16_great (a0 : List GClass) : Option Bool :=
  Option.bind (law16_great_L1 a0 ((((a0.length : Int) : Int) - (0)).toNat + 1) 0) fun lr22 =>
  Ctl.elim lr22 (fun v => some v) fun _ =>
  some (decide ((a0.length : Int) > 30))
def above_up (a0 : List GClass) (a1 : List UInt8) : Option ((List GClass) × (List UInt8)) :=
  some (a0, a1)
def slices_IndexFunc_api_Class_L1 (a0 : List GClass) (q1 : GClass → Option Bool) : Nat → Int → Option (Ctl (Int) (Unit))
  | 0, _ => none
  | n + 1, x11 =>
    if (decide (x11 < (a0.length : Int))) = true then
      Option.bind (idx a0 x11) fun (y28 : GClass) =>
      Option.bind (q1 y28) fun (y30 : Bool) =>
      if y30 = true then
        some (.stop x11)
      else
        slices_IndexFunc_api_Class_L1 a0 q1 n (w_i64 (x11 + 1))
    else
      some (.next ())
def slices_IndexFunc_api_Class (a0 : List GClass) (q1 : GClass → Option Bool) : Option Int :=
  Option.bind (slices_IndexFunc_api_Class_L1 a0 q1 ((((a0.length : Int) : Int) - (0)).toNat + 1) 0) fun lr34 =>
  Ctl.elim lr34 (fun v => some v) fun _ =>
  some (-1)
def table_Find_1 (a0 : GClass) (c0 : List UInt8) : Option Bool :=
  some (a0.fName == c0)
def table_Find (a0 : List GClass) (a1 : List UInt8) : Option Int :=
  Option.bind (slices_IndexFunc_api_Class a0 (fun (z1 : GClass) => table_Find_1 z1 a1)) fun (y2 : Int) =>
  some y2
def above_up_1_L1 (c0 : List GClass) (sp : Nat) (rows : List (Int)) : Nat → Nat → (List UInt8) → Int → Option (Ctl (Nat) (Nat))
  | 0, _, _, _ => none
  | n + 1, x19, x20, x21 =>
    if (decide (x21 < (w_i64 ((c0.length : Int) + 1)))) = true then
      Option.bind (table_Find c0 x20) fun (y46 : Int) =>
      Option.bind (if (decide (y46 < 0)) = true then
        some (x19, true)
      else
        Option.bind (yck rows sp x19 y46) fun (u49 : Unit) =>
        some ((x19 + 1), (!(!(x19 == sp)))) : Option (Nat × Bool)) fun (x51, x52) =>
      if x52 = true then
        some (.stop x51)
      else
        Option.bind (idx c0 y46) fun (y58 : GClass) =>
        if (y58.fSuper == []) = true then
          some (.stop x51)
        else
          above_up_1_L1 c0 sp rows n x51 y58.fSuper (w_i64 (x21 + 1))
    else
      some (.next x19)
def above_up_1 (rows : List (Int)) (sp : Nat) (c0 : List GClass) (c1 : List UInt8) : Option Nat :=
  Option.bind (above_up_1_L1 c0 sp rows ((((w_i64 ((c0.length : Int) + 1)) : Int) - (0)).toNat + 1) 0 c1 0) fun lr65 =>
  Ctl.elim lr65 (fun v => some v) fun x64 =>
  some x64
def itR_up_n (p : List GClass) : Nat → List UInt8 → Option (List Int)
  | 0, _ => some []
  | n + 1, name => Option.bind (table_Find p name) fun i =>
    if i < 0 then some [] else
    Option.bind (idx p i) fun c =>
    if c.fSuper == [] then some [i] else
    Option.bind (itR_up_n p n c.fSuper) fun l => some (i :: l)
def itR_up (p : List GClass) (name : List UInt8) : Option (List Int) := if p.length < 9223372036854775806 then itR_up_n p (p.length + 1) name else none
def slices_Index_int_L1 (a0 : List Int) (a1 : Int) : Nat → Int → Option (Ctl (Int) (Unit))
  | 0, _ => none
  | n + 1, x7 =>
    if (decide (x7 < (a0.length : Int))) = true then
      Option.bind (idx a0 x7) fun (y18 : Int) =>
      if (a1 == y18) = true then
        some (.stop x7)
      else
        slices_Index_int_L1 a0 a1 n (w_i64 (x7 + 1))
    else
      some (.next ())
def slices_Index_int (a0 : List Int) (a1 : Int) : Option Int :=
  Option.bind (slices_Index_int_L1 a0 a1 ((((a0.length : Int) : Int) - (0)).toNat + 1) 0) fun lr22 =>
  Ctl.elim lr22 (fun v => some v) fun _ =>
  some (-1)
def slices_Contains_int (a0 : List Int) (a1 : Int) : Option Bool :=
  Option.bind (slices_Index_int a0 a1) fun (y1 : Int) =>
  some (decide (y1 ≥ 0))
def above_Chain_B1  : Int → (List Int) → Option (Ctl (List Int) (List Int))
  | x23, x13 =>
    Option.bind (slices_Contains_int x13 x23) fun (y26 : Bool) =>
    if y26 = true then
      some (.stop x13)
    else
      Option.bind (room ((x13.length : Int) + ([x23].length : Int)) 8) fun (u29 : Unit) =>
      some (.next (x13 ++ [x23]))
def above_Chain (a0 : List GClass) (a1 : List UInt8) : Option (List Int) :=
  Option.bind (above_up a0 a1) fun (y3 : (List GClass) × (List UInt8)) =>
  Option.bind (itR_up y3.1 y3.2) fun (rows33 : List (Int)) =>
  Option.bind (runs above_Chain_B1 rows33 []) fun (lr35 : Ctl (List Int) (List Int)) =>
  Ctl.elim lr35 (fun x32 =>
    some x32) (fun x13 =>
    some x13)
def slices_Backward_int (a0 : List Int) : Option (List Int) :=
  some a0
def slices_Backward_int_1_L1 (c0 : List Int) (sp : Nat) (rows : List (Int × Int)) : Nat → Nat → Int → Option (Ctl (Nat) (Nat))
  | 0, _, _ => none
  | n + 1, x11, x12 =>
    if (decide (x12 ≥ 0)) = true then
      Option.bind (idx c0 x12) fun (y30 : Int) =>
      Option.bind (yck rows sp x11 (x12, y30)) fun (u32 : Unit) =>
      if (!(!(x11 == sp))) = true then
        some (.stop (x11 + 1))
      else
        slices_Backward_int_1_L1 c0 sp rows n (x11 + 1) (w_i64 (x12 - 1))
    else
      some (.next x11)
def slices_Backward_int_1 (rows : List (Int × Int)) (sp : Nat) (c0 : List Int) : Option Nat :=
  Option.bind (slices_Backward_int_1_L1 c0 sp rows ((((w_i64 ((c0.length : Int) - 1)) : Int) - (0)).toNat + 2) 0 (w_i64 ((c0.length : Int) - 1))) fun lr38 =>
  Ctl.elim lr38 (fun v => some v) fun x37 =>
  some x37
def itR_back_n (l : List Int) : Nat → List (Int × Int)
  | 0 => []
  | n + 1 => match l[n]? with
    | some x => ((n : Int), x) :: itR_back_n l n
    | none => []
def itR_back (l : List Int) : Option (List (Int × Int)) := if l.length < 4611686018427387904 then some (itR_back_n l l.length) else none
def field_All_L2 (a0 : List GClass) (x118 : Int) (y121 : GClass) : Nat → (List GSlot_field) → Int → Option ((List GSlot_field))
  | 0, _, _ => none
  | n + 1, x136, x137 =>
    if (decide (x137 < (y121.fFields.length : Int))) = true then
      Option.bind (idx y121.fFields x137) fun (y156 : GVar) =>
      Option.bind (idx a0 x118) fun (y162 : GClass) =>
      Option.bind (room ((x136.length : Int) + ([({ fClass := y162.fName, fVar := y156 } : GSlot_field)].length : Int)) 136) fun (u164 : Unit) =>
      field_All_L2 a0 x118 y121 n (x136 ++ [({ fClass := y162.fName, fVar := y156 } : GSlot_field)]) (w_i64 (x137 + 1))
    else
      some x136
def field_All_B1 (a0 : List GClass) : Int × Int → (List GSlot_field) → Option (Ctl Unit (List GSlot_field))
  | (x117, x118), x62 =>
    Option.bind (idx a0 x118) fun (y121 : GClass) =>
    Option.bind (field_All_L2 a0 x118 y121 ((((y121.fFields.length : Int) : Int) - (0)).toNat + 1) x62 0) fun x168 =>
    some (.next x168)
def field_All (a0 : List GClass) (a1 : List UInt8) : Option (List GSlot_field) :=
  Option.bind (above_Chain a0 a1) fun (y5 : (List Int)) =>
  Option.bind (slices_Backward_int y5) fun (y7 : (List Int)) =>
  Option.bind (itR_back y7) fun (rows171 : List (Int × Int)) =>
  Option.bind (runs (field_All_B1 a0) rows171 []) fun (lr173 : Ctl Unit (List GSlot_field)) =>
  Ctl.elim lr173 (fun _ => none) (fun x62 =>
    some x62)
def field_named (a0 : List UInt8) : Option (List UInt8) :=
  some a0
def slices_IndexFunc_field_Slot_L1 (a0 : List GSlot_field) (q1 : GSlot_field → Option Bool) : Nat → Int → Option (Ctl (Int) (Unit))
  | 0, _ => none
  | n + 1, x11 =>
    if (decide (x11 < (a0.length : Int))) = true then
      Option.bind (idx a0 x11) fun (y28 : GSlot_field) =>
      Option.bind (q1 y28) fun (y30 : Bool) =>
      if y30 = true then
        some (.stop x11)
      else
        slices_IndexFunc_field_Slot_L1 a0 q1 n (w_i64 (x11 + 1))
    else
      some (.next ())
def slices_IndexFunc_field_Slot (a0 : List GSlot_field) (q1 : GSlot_field → Option Bool) : Option Int :=
  Option.bind (slices_IndexFunc_field_Slot_L1 a0 q1 ((((a0.length : Int) : Int) - (0)).toNat + 1) 0) fun lr34 =>
  Ctl.elim lr34 (fun v => some v) fun _ =>
  some (-1)
def field_named_1 (a0 : GSlot_field) (c0 : List UInt8) : Option Bool :=
  some (a0.fVar.fName == c0)
def field_Find (a0 : List GClass) (a1 : List UInt8) (a2 : List UInt8) : Option Int :=
  Option.bind (field_All a0 a1) fun (y1 : (List GSlot_field)) =>
  Option.bind (field_named a2) fun (y3 : (List UInt8)) =>
  Option.bind (slices_IndexFunc_field_Slot y1 (fun (z5 : GSlot_field) => field_named_1 z5 y3)) fun (y6 : Int) =>
  some y6
def law16_awake  : Option Bool :=
  Option.bind (field_Find [({ fName := [65], fParams := [], fSuper := [], fAbove := [], fFields := [({ fName := [102], fType := ({ fKind := 0, fClass := [], fN := 0, fOwn := (⟨({ fKind := 0, fN := 0 } : GOwner), ({ fKind := 0, fN := 0 } : GOwner), ({ fKind := 0, fN := 0 } : GOwner), ({ fKind := 0, fN := 0 } : GOwner)⟩ : A4 GOwner) } : GType), fAt := 0 } : GVar)], fMethods := [], fAt := 0 } : GClass), ({ fName := [66], fParams := [], fSuper := [65], fAbove := [], fFields := [({ fName := [103], fType := ({ fKind := 0, fClass := [], fN := 0, fOwn := (⟨({ fKind := 0, fN := 0 } : GOwner), ({ fKind := 0, fN := 0 } : GOwner), ({ fKind := 0, fN := 0 } : GOwner), ({ fKind := 0, fN := 0 } : GOwner)⟩ : A4 GOwner) } : GType), fAt := 0 } : GVar)], fMethods := [], fAt := 0 } : GClass)] [66] [103]) fun (y1 : Int) =>
  if (y1 == 1) = true then
    Option.bind (field_Find [({ fName := [65], fParams := [], fSuper := [], fAbove := [], fFields := [({ fName := [102], fType := ({ fKind := 0, fClass := [], fN := 0, fOwn := (⟨({ fKind := 0, fN := 0 } : GOwner), ({ fKind := 0, fN := 0 } : GOwner), ({ fKind := 0, fN := 0 } : GOwner), ({ fKind := 0, fN := 0 } : GOwner)⟩ : A4 GOwner) } : GType), fAt := 0 } : GVar)], fMethods := [], fAt := 0 } : GClass), ({ fName := [66], fParams := [], fSuper := [65], fAbove := [], fFields := [({ fName := [103], fType := ({ fKind := 0, fClass := [], fN := 0, fOwn := (⟨({ fKind := 0, fN := 0 } : GOwner), ({ fKind := 0, fN := 0 } : GOwner), ({ fKind := 0, fN := 0 } : GOwner), ({ fKind := 0, fN := 0 } : GOwner)⟩ : A4 GOwner) } : GType), fAt := 0 } : GVar)], fMethods := [], fAt := 0 } : GClass)] [66] [102]) fun (y4 : Int) =>
    if (y4 == 0) = true then
      Option.bind (field_Find [({ fName := [65], fParams := [], fSuper := [], fAbove := [], fFields := [({ fName := [102], fType := ({ fKind := 0, fClass := [], fN := 0, fOwn := (⟨({ fKind := 0, fN := 0 } : GOwner), ({ fKind := 0, fN := 0 } : GOwner), ({ fKind := 0, fN := 0 } : GOwner), ({ fKind := 0, fN := 0 } : GOwner)⟩ : A4 GOwner) } : GType), fAt := 0 } : GVar)], fMethods := [], fAt := 0 } : GClass), ({ fName := [66], fParams := [], fSuper := [65], fAbove := [], fFields := [({ fName := [103], fType := ({ fKind := 0, fClass := [], fN := 0, fOwn := (⟨({ fKind := 0, fN := 0 } : GOwner), ({ fKind := 0, fN := 0 } : GOwner), ({ fKind := 0, fN := 0 } : GOwner), ({ fKind := 0, fN := 0 } : GOwner)⟩ : A4 GOwner) } : GType), fAt := 0 } : GVar)], fMethods := [], fAt := 0 } : GClass)] [65] [103]) fun (y7 : Int) =>
      some (y7 == (-1))
    else
      some false
  else
    some false
def field_Of (a0 : List GClass) (a1 : List UInt8) (a2 : List UInt8) : Option (GSlot_field × Bool) :=
  Option.bind (field_All a0 a1) fun (y3 : (List GSlot_field)) =>
  Option.bind (field_named a2) fun (y10 : (List UInt8)) =>
  Option.bind (slices_IndexFunc_field_Slot y3 (fun (z12 : GSlot_field) => field_named_1 z12 y10)) fun (y13 : Int) =>
  if (decide (y13 < 0)) = true then
    some (({ fClass := [], fVar := ({ fName := [], fType := ({ fKind := 0, fClass := [], fN := 0, fOwn := (⟨({ fKind := 0, fN := 0 } : GOwner), ({ fKind := 0, fN := 0 } : GOwner), ({ fKind := 0, fN := 0 } : GOwner), ({ fKind := 0, fN := 0 } : GOwner)⟩ : A4 GOwner) } : GType), fAt := 0 } : GVar) } : GSlot_field), false)
  else
    Option.bind (idx y3 y13) fun (y16 : GSlot_field) =>
    some (y16, true)
def ref13_Find_L1 (a0 : List GClass) (a1 : List UInt8) : Nat → Int → Option (Ctl (Int) (Unit))
  | 0, _ => none
  | n + 1, x7 =>
    if (decide (x7 < (a0.length : Int))) = true then
      Option.bind (idx a0 x7) fun (y18 : GClass) =>
      if (y18.fName == a1) = true then
        some (.stop x7)
      else
        ref13_Find_L1 a0 a1 n (w_i64 (x7 + 1))
    else
      some (.next ())
def ref13_Find (a0 : List GClass) (a1 : List UInt8) : Option Int :=
  Option.bind (ref13_Find_L1 a0 a1 ((((a0.length : Int) : Int) - (0)).toNat + 1) 0) fun lr22 =>
  Ctl.elim lr22 (fun v => some v) fun _ =>
  some (-1)
def ref14_has_L1 (a0 : List Int) (a1 : Int) : Nat → Int → Option (Ctl (Bool) (Unit))
  | 0, _ => none
  | n + 1, x7 =>
    if (decide (x7 < (a0.length : Int))) = true then
      Option.bind (idx a0 x7) fun (y18 : Int) =>
      if (y18 == a1) = true then
        some (.stop true)
      else
        ref14_has_L1 a0 a1 n (w_i64 (x7 + 1))
    else
      some (.next ())
def ref14_has (a0 : List Int) (a1 : Int) : Option Bool :=
  Option.bind (ref14_has_L1 a0 a1 ((((a0.length : Int) : Int) - (0)).toNat + 1) 0) fun lr22 =>
  Ctl.elim lr22 (fun v => some v) fun _ =>
  some false
def ref14_Chain_L1 (a0 : List GClass) : Nat → (List Int) → Int → Option (Ctl ((List Int)) ((List Int)))
  | 0, _, _ => none
  | n + 1, x25, x26 =>
    Option.bind (if (decide (x26 ≥ 0)) = true then
      Option.bind (ref14_has x25 x26) fun (y50 : Bool) =>
      some (!y50)
    else
      some false : Option (Bool)) fun x52 =>
    if x52 = true then
      Option.bind (room ((x25.length : Int) + ([x26].length : Int)) 8) fun (u58 : Unit) =>
      Option.bind (idx a0 x26) fun (y62 : GClass) =>
      if (y62.fSuper == []) = true then
        some (.stop (x25 ++ [x26]))
      else
        Option.bind (idx a0 x26) fun (y65 : GClass) =>
        Option.bind (ref13_Find a0 y65.fSuper) fun (y67 : Int) =>
        ref14_Chain_L1 a0 n (x25 ++ [x26]) y67
    else
      some (.next x25)
def ref14_Chain (a0 : List GClass) (a1 : List UInt8) : Option (List Int) :=
  Option.bind (ref13_Find a0 a1) fun (y3 : Int) =>
  Option.bind (ref14_Chain_L1 a0 (a0.length + 2) [] y3) fun lr72 =>
  Ctl.elim lr72 (fun v => some v) fun x71 =>
  some x71
def ref16_All_L2 (y104 : GClass) : Nat → (List GSlot_ref16) → Int → Option ((List GSlot_ref16))
  | 0, _, _ => none
  | n + 1, x115, x116 =>
    if (decide (x116 < (y104.fFields.length : Int))) = true then
      Option.bind (idx y104.fFields x116) fun (y133 : GVar) =>
      Option.bind (room ((x115.length : Int) + ([({ fClass := y104.fName, fVar := y133 } : GSlot_ref16)].length : Int)) 136) fun (u135 : Unit) =>
      ref16_All_L2 y104 n (x115 ++ [({ fClass := y104.fName, fVar := y133 } : GSlot_ref16)]) (w_i64 (x116 + 1))
    else
      some x115
def ref16_All_L1 (a0 : List GClass) (y3 : (List Int)) : Nat → (List GSlot_ref16) → Int → Option ((List GSlot_ref16))
  | 0, _, _ => none
  | n + 1, x49, x50 =>
    if (decide (x50 ≥ 0)) = true then
      Option.bind (idx y3 x50) fun (y102 : Int) =>
      Option.bind (idx a0 y102) fun (y104 : GClass) =>
      Option.bind (ref16_All_L2 y104 ((((y104.fFields.length : Int) : Int) - (0)).toNat + 1) x49 0) fun x139 =>
      ref16_All_L1 a0 y3 n x139 (w_i64 (x50 - 1))
    else
      some x49
def ref16_All (a0 : List GClass) (a1 : List UInt8) : Option (List GSlot_ref16) :=
  Option.bind (ref14_Chain a0 a1) fun (y3 : (List Int)) =>
  Option.bind (ref16_All_L1 a0 y3 ((((w_i64 ((y3.length : Int) - 1)) : Int) - (0)).toNat + 2) [] (w_i64 ((y3.length : Int) - 1))) fun x143 =>
  some x143
def ref16_Find_L1 (a2 : List UInt8) (y3 : (List GSlot_ref16)) : Nat → Int → Option (Ctl (Int) (Unit))
  | 0, _ => none
  | n + 1, x11 =>
    if (decide (x11 < (y3.length : Int))) = true then
      Option.bind (idx y3 x11) fun (y22 : GSlot_ref16) =>
      if (y22.fVar.fName == a2) = true then
        some (.stop x11)
      else
        ref16_Find_L1 a2 y3 n (w_i64 (x11 + 1))
    else
      some (.next ())
def ref16_Find (a0 : List GClass) (a1 : List UInt8) (a2 : List UInt8) : Option Int :=
  Option.bind (ref16_All a0 a1) fun (y3 : (List GSlot_ref16)) =>
  Option.bind (ref16_Find_L1 a2 y3 ((((y3.length : Int) : Int) - (0)).toNat + 1) 0) fun lr26 =>
  Ctl.elim lr26 (fun v => some v) fun _ =>
  some (-1)
def ref16_Of (a0 : List GClass) (a1 : List UInt8) (a2 : List UInt8) : Option (GSlot_ref16 × Bool) :=
  Option.bind (ref16_Find a0 a1 a2) fun (y3 : Int) =>
  if (decide (y3 < 0)) = true then
    some (({ fClass := [], fVar := ({ fName := [], fType := ({ fKind := 0, fClass := [], fN := 0, fOwn := (⟨({ fKind := 0, fN := 0 } : GOwner), ({ fKind := 0, fN := 0 } : GOwner), ({ fKind := 0, fN := 0 } : GOwner), ({ fKind := 0, fN := 0 } : GOwner)⟩ : A4 GOwner) } : GType), fAt := 0 } : GVar) } : GSlot_ref16), false)
  else
    Option.bind (ref16_All a0 a1) fun (y6 : (List GSlot_ref16)) =>
    Option.bind (idx y6 y3) fun (y8 : GSlot_ref16) =>
    some (y8, true)
def field_Check_L3 (y668 : GClass) : Nat → Nat → (List UInt8 → Int) → Int → Option (Nat × (List UInt8 → Int))
  | 0, _, _, _ => none
  | n + 1, x683, x684, x685 =>
    if (decide (x685 < (y668.fFields.length : Int))) = true then
      Option.bind (idx y668.fFields x685) fun (y705 : GVar) =>
      Option.bind (mget x684 y705.fName) fun (y711 : Int) =>
      Option.bind (mput x683 x684 y705.fName (w_i64 (y711 + 1))) fun (y713 : List UInt8 → Int) =>
      field_Check_L3 y668 n (x683 + 1) y713 (w_i64 (x685 + 1))
    else
      some (x683, x684)
def field_Check_L2 (a0 : List GClass) (x256 : Int) (y520 : (List Int)) : Nat → Nat → (List UInt8 → Int) → Int → Option (Nat × (List UInt8 → Int))
  | 0, _, _, _ => none
  | n + 1, x588, x589, x590 =>
    if (decide (x590 < (y520.length : Int))) = true then
      Option.bind (Option.bind (idx y520 x590) fun (y663 : Int) =>
      if (y663 == x256) = true then
        some (x588, x589)
      else
        Option.bind (idx a0 y663) fun (y668 : GClass) =>
        Option.bind (field_Check_L3 y668 ((((y668.fFields.length : Int) : Int) - (0)).toNat + 1) x588 x589 0) fun (x718, x719) =>
        some (x718, x719) : Option (Nat × (List UInt8 → Int))) fun (x722, x723) =>
      field_Check_L2 a0 x256 y520 n x722 x723 (w_i64 (x590 + 1))
    else
      some (x588, x589)
def field_Check_L4 (x730 : List UInt8 → Int) (y516 : GClass) : Nat → Int → Option (Ctl (GFault) (Unit))
  | 0, _ => none
  | n + 1, x743 =>
    if (decide (x743 < (y516.fFields.length : Int))) = true then
      Option.bind (idx y516.fFields x743) fun (y758 : GVar) =>
      Option.bind (mget x730 y758.fName) fun (y762 : Int) =>
      if (decide (y762 > 0)) = true then
        some (.stop ({ fErr := 7, fAt := y758.fAt } : GFault))
      else
        field_Check_L4 x730 y516 n (w_i64 (x743 + 1))
    else
      some (.next ())
def field_Check_L1 (a0 : List GClass) : Nat → Int → Option (Ctl (GFault) (Unit))
  | 0, _ => none
  | n + 1, x256 =>
    if (decide (x256 < (a0.length : Int))) = true then
      Option.bind (idx a0 x256) fun (y516 : GClass) =>
      Option.bind (above_Chain a0 y516.fName) fun (y520 : (List Int)) =>
      Option.bind (field_Check_L2 a0 x256 y520 ((((y520.length : Int) : Int) - (0)).toNat + 1) 0 (fun _ => 0) 0) fun (x729, x730) =>
      Option.bind (field_Check_L4 x730 y516 ((((y516.fFields.length : Int) : Int) - (0)).toNat + 1) 0) fun lr766 =>
      Ctl.elim lr766 (fun v => some (.stop v)) fun _ =>
      field_Check_L1 a0 n (w_i64 (x256 + 1))
    else
      some (.next ())
def field_Check (a0 : List GClass) : Option GFault :=
  Option.bind (field_Check_L1 a0 ((((a0.length : Int) : Int) - (0)).toNat + 1) 0) fun lr769 =>
  Ctl.elim lr769 (fun v => some v) fun _ =>
  some ({ fErr := 0, fAt := 0 } : GFault)
def ref16_Check_L4 (a0 : List GClass) (x821 : Int) (x1920 : Int) (x2281 : Int) (y1650 : (List Int)) (y2376 : GClass) : Nat → Int → Option (Ctl (GFault) (Unit))
  | 0, _ => none
  | n + 1, x2402 =>
    Option.bind (if (decide (x2402 < (y2376.fFields.length : Int))) = true then
      Option.bind (idx y1650 x2281) fun (y2429 : Int) =>
      some (y2429 != x821)
    else
      some false : Option (Bool)) fun x2431 =>
    if x2431 = true then
      Option.bind (idx y2376.fFields x2402) fun (y2441 : GVar) =>
      Option.bind (idx a0 x821) fun (y2443 : GClass) =>
      Option.bind (idx y2443.fFields x1920) fun (y2445 : GVar) =>
      if (y2441.fName == y2445.fName) = true then
        Option.bind (idx a0 x821) fun (y2448 : GClass) =>
        Option.bind (idx y2448.fFields x1920) fun (y2450 : GVar) =>
        some (.stop ({ fErr := 7, fAt := y2450.fAt } : GFault))
      else
        ref16_Check_L4 a0 x821 x1920 x2281 y1650 y2376 n (w_i64 (x2402 + 1))
    else
      some (.next ())
def ref16_Check_L3 (a0 : List GClass) (x821 : Int) (x1920 : Int) (y1650 : (List Int)) : Nat → Int → Option (Ctl (GFault) (Unit))
  | 0, _ => none
  | n + 1, x2281 =>
    if (decide (x2281 < (y1650.length : Int))) = true then
      Option.bind (idx y1650 x2281) fun (y2374 : Int) =>
      Option.bind (idx a0 y2374) fun (y2376 : GClass) =>
      Option.bind (ref16_Check_L4 a0 x821 x1920 x2281 y1650 y2376 42 0) fun lr2453 =>
      Ctl.elim lr2453 (fun v => some (.stop v)) fun _ =>
      ref16_Check_L3 a0 x821 x1920 y1650 n (w_i64 (x2281 + 1))
    else
      some (.next ())
def ref16_Check_L2 (a0 : List GClass) (x821 : Int) (y1650 : (List Int)) : Nat → Int → Option (Ctl (GFault) (Unit))
  | 0, _ => none
  | n + 1, x1920 =>
    Option.bind (idx a0 x821) fun (y2192 : GClass) =>
    if (decide (x1920 < (y2192.fFields.length : Int))) = true then
      Option.bind (ref16_Check_L3 a0 x821 x1920 y1650 ((((y1650.length : Int) : Int) - (0)).toNat + 1) 0) fun lr2456 =>
      Ctl.elim lr2456 (fun v => some (.stop v)) fun _ =>
      ref16_Check_L2 a0 x821 y1650 n (w_i64 (x1920 + 1))
    else
      some (.next ())
def ref16_Check_L1 (a0 : List GClass) : Nat → Int → Option (Ctl (GFault) (Unit))
  | 0, _ => none
  | n + 1, x821 =>
    if (decide (x821 < (a0.length : Int))) = true then
      Option.bind (idx a0 x821) fun (y1648 : GClass) =>
      Option.bind (ref14_Chain a0 y1648.fName) fun (y1650 : (List Int)) =>
      Option.bind (ref16_Check_L2 a0 x821 y1650 (Option.getD (Option.bind (idx a0 x821) fun (y2461 : GClass) => some ((((y2461.fFields.length : Int) : Int) - (0)).toNat + 1)) 1) 0) fun lr2459 =>
      Ctl.elim lr2459 (fun v => some (.stop v)) fun _ =>
      ref16_Check_L1 a0 n (w_i64 (x821 + 1))
    else
      some (.next ())
def ref16_Check (a0 : List GClass) : Option GFault :=
  Option.bind (ref16_Check_L1 a0 ((((a0.length : Int) : Int) - (0)).toNat + 1) 0) fun lr2464 =>
  Ctl.elim lr2464 (fun v => some v) fun _ =>
  some ({ fErr := 0, fAt := 0 } : GFault)
def law16_FieldFind (a0 : List GClass) (a1 : List UInt8) (a2 : List UInt8) : Option Bool :=
  Option.bind (law16_great a0) fun (y3 : Bool) =>
  if y3 = true then
    Option.bind law16_awake fun (y6 : Bool) =>
    some y6
  else
    Option.bind (field_Of a0 a1 a2) fun (y10 : GSlot_field × Bool) =>
    Option.bind (ref16_Of a0 a1 a2) fun (y14 : GSlot_ref16 × Bool) =>
    Option.bind (field_Find a0 a1 a2) fun (y16 : Int) =>
    Option.bind (ref16_Find a0 a1 a2) fun (y18 : Int) =>
    if (y16 == y18) = true then
      if (bGSlot_field y10.1 ({ fClass := y14.1.fClass, fVar := y14.1.fVar } : GSlot_field)) = true then
        if (y10.2 == y14.2) = true then
          Option.bind (field_Check a0) fun (y23 : GFault) =>
          Option.bind (ref16_Check a0) fun (y25 : GFault) =>
          if (bGFault y23 y25) = true then
            Option.bind law16_awake fun (y28 : Bool) =>
            some y28
          else
            some false
        else
          some false
      else
        some false
    else
      some false
end
end Go.Proofs.Ytpbbeljmmabeeaa
