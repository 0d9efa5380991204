/- A part of the proof that the law ScopeMore gives true for every input. -/
import Derived.Test.YtiblofbgibjobaaScopeMoreA3
import Derived.Test.YtiblofbgibjobaaScopeMoreX
/- The types and the plain functions. -/
namespace Go.Proofs.Ytiblofbgibjobaa
open Go.RowKit Go.Abs
noncomputable section
structure GOwner where
  fKind : Int
  fN : Int
  deriving DecidableEq
abbrev zGOwner : GOwner := ({ fKind := 0, fN := 0 } : GOwner)
abbrev eGOwner (x : GOwner) : List PV := [.int .i64 x.fKind, .int .i64 x.fN]
structure GType where
  fKind : Int
  fClass : List UInt8
  fN : Int
  fOwn : A4 GOwner
  deriving DecidableEq
abbrev zGType : GType := ({ fKind := 0, fClass := [], fN := 0, fOwn := (⟨zGOwner, zGOwner, zGOwner, zGOwner⟩ : A4 GOwner) } : GType)
abbrev eGType (x : GType) : List PV := [.int .i64 x.fKind, .str x.fClass, .int .i64 x.fN, .int .i64 x.fOwn.a0.fKind, .int .i64 x.fOwn.a0.fN, .int .i64 x.fOwn.a1.fKind, .int .i64 x.fOwn.a1.fN, .int .i64 x.fOwn.a2.fKind, .int .i64 x.fOwn.a2.fN, .int .i64 x.fOwn.a3.fKind, .int .i64 x.fOwn.a3.fN]
structure GVar where
  fName : List UInt8
  fType : GType
  fAt : Int
  deriving DecidableEq
abbrev zGVar : GVar := ({ fName := [], fType := zGType, fAt := 0 } : GVar)
abbrev eGVar (x : GVar) : List PV := [.str x.fName, .int .i64 x.fType.fKind, .str x.fType.fClass, .int .i64 x.fType.fN, .int .i64 x.fType.fOwn.a0.fKind, .int .i64 x.fType.fOwn.a0.fN, .int .i64 x.fType.fOwn.a1.fKind, .int .i64 x.fType.fOwn.a1.fN, .int .i64 x.fType.fOwn.a2.fKind, .int .i64 x.fType.fOwn.a2.fN, .int .i64 x.fType.fOwn.a3.fKind, .int .i64 x.fType.fOwn.a3.fN, .int .i64 x.fAt]
structure GExpr where
  fKind : Int
  fNum : Int
  fName : List UInt8
  fKids : List GExpr
abbrev zGExpr : GExpr := ({ fKind := 0, fNum := 0, fName := [], fKids := [] } : GExpr)
mutual
def rGExpr : GExpr → List PV
  | ⟨z0, z1, z2, z3⟩ => [.int .i64 z0, .int .i64 z1, .str z2, .vs 4 (eLGExpr z3)]
def eLGExpr : List GExpr → List (List PV)
  | [] => []
  | x :: l => rGExpr x :: eLGExpr l
end
abbrev eGExpr (x : GExpr) : List PV := [.int .i64 x.fKind, .int .i64 x.fNum, .str x.fName, .vs 4 (eLGExpr x.fKids)]
theorem rGExpr_eq (x : GExpr) : rGExpr x = eGExpr x := by cases x; simp only [rGExpr]
theorem eLGExpr_map : ∀ l : List GExpr, eLGExpr l = l.map eGExpr
  | [] => by simp only [eLGExpr, List.map_nil]
  | x :: l => by simp only [eLGExpr, List.map_cons, rGExpr_eq, eLGExpr_map l]
mutual
def mGExpr : GExpr → Nat
  | ⟨_, _, _, z3⟩ => 1 + mLGExpr z3
def mLGExpr : List GExpr → Nat
  | [] => 0
  | x :: l => mGExpr x + mLGExpr l
end
structure GStmt where
  fKind : Int
  fX : List UInt8
  fY : List UInt8
  fName : List UInt8
  fType : GType
  fE : GExpr
  fArgs : List GExpr
  fBody : List GStmt
  fElse : List GStmt
  fAt : Int
abbrev zGStmt : GStmt := ({ fKind := 0, fX := [], fY := [], fName := [], fType := zGType, fE := zGExpr, fArgs := [], fBody := [], fElse := [], fAt := 0 } : GStmt)
mutual
def rGStmt : GStmt → List PV
  | ⟨z0, z1, z2, z3, z4, z5, z6, z7, z8, z9⟩ => [.int .i64 z0, .str z1, .str z2, .str z3, .int .i64 z4.fKind, .str z4.fClass, .int .i64 z4.fN, .int .i64 z4.fOwn.a0.fKind, .int .i64 z4.fOwn.a0.fN, .int .i64 z4.fOwn.a1.fKind, .int .i64 z4.fOwn.a1.fN, .int .i64 z4.fOwn.a2.fKind, .int .i64 z4.fOwn.a2.fN, .int .i64 z4.fOwn.a3.fKind, .int .i64 z4.fOwn.a3.fN, .int .i64 z5.fKind, .int .i64 z5.fNum, .str z5.fName, .vs 4 (eLGExpr z5.fKids), .vs 4 (eLGExpr z6), .vs 23 (eLGStmt z7), .vs 23 (eLGStmt z8), .int .i64 z9]
def eLGStmt : List GStmt → List (List PV)
  | [] => []
  | x :: l => rGStmt x :: eLGStmt l
end
abbrev eGStmt (x : GStmt) : List PV := [.int .i64 x.fKind, .str x.fX, .str x.fY, .str x.fName, .int .i64 x.fType.fKind, .str x.fType.fClass, .int .i64 x.fType.fN, .int .i64 x.fType.fOwn.a0.fKind, .int .i64 x.fType.fOwn.a0.fN, .int .i64 x.fType.fOwn.a1.fKind, .int .i64 x.fType.fOwn.a1.fN, .int .i64 x.fType.fOwn.a2.fKind, .int .i64 x.fType.fOwn.a2.fN, .int .i64 x.fType.fOwn.a3.fKind, .int .i64 x.fType.fOwn.a3.fN, .int .i64 x.fE.fKind, .int .i64 x.fE.fNum, .str x.fE.fName, .vs 4 (eLGExpr x.fE.fKids), .vs 4 (eLGExpr x.fArgs), .vs 23 (eLGStmt x.fBody), .vs 23 (eLGStmt x.fElse), .int .i64 x.fAt]
theorem rGStmt_eq (x : GStmt) : rGStmt x = eGStmt x := by cases x; simp only [rGStmt]
theorem eLGStmt_map : ∀ l : List GStmt, eLGStmt l = l.map eGStmt
  | [] => by simp only [eLGStmt, List.map_nil]
  | x :: l => by simp only [eLGStmt, List.map_cons, rGStmt_eq, eLGStmt_map l]
mutual
def mGStmt : GStmt → Nat
  | ⟨_, _, _, _, _, z5, z6, z7, z8, _⟩ => 1 + mGExpr z5 + mLGExpr z6 + mLGStmt z7 + mLGStmt z8
def mLGStmt : List GStmt → Nat
  | [] => 0
  | x :: l => mGStmt x + mLGStmt l
end
structure GMethod where
  fName : List UInt8
  fPure : Bool
  fRet : GType
  fParams : List GVar
  fLocals : List GVar
  fBody : List GStmt
  fAt : Int
abbrev zGMethod : GMethod := ({ fName := [], fPure := false, fRet := zGType, fParams := [], fLocals := [], fBody := [], fAt := 0 } : GMethod)
def mGMethod : GMethod → Nat
  | ⟨_, _, _, _, _, z5, _⟩ => 1 + mLGStmt z5
def mLGMethod : List GMethod → Nat
  | [] => 0
  | x :: l => mGMethod x + mLGMethod l
abbrev eGMethod (x : GMethod) : List PV := [.str x.fName, .bool x.fPure, .int .i64 x.fRet.fKind, .str x.fRet.fClass, .int .i64 x.fRet.fN, .int .i64 x.fRet.fOwn.a0.fKind, .int .i64 x.fRet.fOwn.a0.fN, .int .i64 x.fRet.fOwn.a1.fKind, .int .i64 x.fRet.fOwn.a1.fN, .int .i64 x.fRet.fOwn.a2.fKind, .int .i64 x.fRet.fOwn.a2.fN, .int .i64 x.fRet.fOwn.a3.fKind, .int .i64 x.fRet.fOwn.a3.fN, .vs 13 (List.map eGVar x.fParams), .vs 13 (List.map eGVar x.fLocals), .vs 23 (eLGStmt x.fBody), .int .i64 x.fAt]
structure GClass where
  fName : List UInt8
  fParams : List (List UInt8)
  fSuper : List UInt8
  fAbove : List GOwner
  fFields : List GVar
  fMethods : List GMethod
  fAt : Int
abbrev zGClass : GClass := ({ fName := [], fParams := [], fSuper := [], fAbove := [], fFields := [], fMethods := [], fAt := 0 } : GClass)
def mGClass : GClass → Nat
  | ⟨_, _, _, _, _, z5, _⟩ => 1 + mLGMethod z5
def mLGClass : List GClass → Nat
  | [] => 0
  | x :: l => mGClass x + mLGClass l
abbrev eGClass (x : GClass) : List PV := [.str x.fName, .vs 1 (List.map eS x.fParams), .str x.fSuper, .vs 2 (List.map eGOwner x.fAbove), .vs 13 (List.map eGVar x.fFields), .vs 17 (List.map eGMethod x.fMethods), .int .i64 x.fAt]
structure GVal where
  fRef : Bool
  fN : Int
  deriving DecidableEq
abbrev zGVal : GVal := ({ fRef := false, fN := 0 } : GVal)
abbrev eGVal (x : GVal) : List PV := [.bool x.fRef, .int .i64 x.fN]
def bGType (a b : GType) : Bool := (a.fKind == b.fKind && (a.fClass == b.fClass && (a.fN == b.fN && (a.fOwn.a0.fKind == b.fOwn.a0.fKind && (a.fOwn.a0.fN == b.fOwn.a0.fN && (a.fOwn.a1.fKind == b.fOwn.a1.fKind && (a.fOwn.a1.fN == b.fOwn.a1.fN && (a.fOwn.a2.fKind == b.fOwn.a2.fKind && (a.fOwn.a2.fN == b.fOwn.a2.fN && (a.fOwn.a3.fKind == b.fOwn.a3.fKind && (a.fOwn.a3.fN == b.fOwn.a3.fN && true)))))))))))
def law18_great (a0 : GMethod) : Option Bool :=
  if (decide ((a0.fParams.length : Int) > 60)) = true then
    some true
  else
    some (decide ((a0.fLocals.length : Int) > 60))
def slices_IndexFunc_api_Var_L1 (a0 : List GVar) (q1 : GVar → Option Bool) : Nat → Int → Option (Ctl (Int) (Unit))
  | 0, _ => none
  | n + 1, x11 =>
    if (decide (x11 < (a0.length : Int))) = true then
      Option.bind (idx a0 x11) fun (y28 : GVar) =>
      Option.bind (q1 y28) fun (y30 : Bool) =>
      if y30 = true then
        some (.stop x11)
      else
        slices_IndexFunc_api_Var_L1 a0 q1 n (w_i64 (x11 + 1))
    else
      some (.next ())
def slices_IndexFunc_api_Var (a0 : List GVar) (q1 : GVar → Option Bool) : Option Int :=
  Option.bind (slices_IndexFunc_api_Var_L1 a0 q1 ((((a0.length : Int) : Int) - (0)).toNat + 1) 0) fun lr34 =>
  Ctl.elim lr34 (fun v => some v) fun _ =>
  some (-1)
def scope_Place_1 (a0 : GVar) (c0 : List UInt8) : Option Bool :=
  some (a0.fName == c0)
def scope_Place (a0 : GMethod) (a1 : List UInt8) : Option Int :=
  Option.bind (slices_IndexFunc_api_Var a0.fParams (fun (z4 : GVar) => scope_Place_1 z4 a1)) fun (y5 : Int) =>
  if (decide (y5 ≥ 0)) = true then
    some y5
  else
    Option.bind (slices_IndexFunc_api_Var a0.fLocals (fun (z11 : GVar) => scope_Place_1 z11 a1)) fun (y12 : Int) =>
    if (decide (y12 < 0)) = true then
      some (-1)
    else
      some (w_i64 ((a0.fParams.length : Int) + y12))
def scope_names (a0 : GStmt) : Option GStmt :=
  some a0
def expr_all (a0 : GExpr) : Option GExpr :=
  some a0
def slices_Backward_api_Expr (a0 : List GExpr) : Option (List GExpr) :=
  some a0
def slices_Backward_api_Expr_1_L1 (c0 : List GExpr) (sp : Nat) (rows : List (Int × GExpr)) : Nat → Nat → Int → Option (Ctl (Nat) (Nat))
  | 0, _, _ => none
  | n + 1, x11, x12 =>
    if (decide (x12 ≥ 0)) = true then
      Option.bind (idx c0 x12) fun (y30 : GExpr) =>
      Option.bind (yck rows sp x11 (x12, y30)) fun (u32 : Unit) =>
      if (!(!(x11 == sp))) = true then
        some (.stop (x11 + 1))
      else
        slices_Backward_api_Expr_1_L1 c0 sp rows n (x11 + 1) (w_i64 (x12 - 1))
    else
      some (.next x11)
def slices_Backward_api_Expr_1 (rows : List (Int × GExpr)) (sp : Nat) (c0 : List GExpr) : Option Nat :=
  Option.bind (slices_Backward_api_Expr_1_L1 c0 sp rows ((((w_i64 ((c0.length : Int) - 1)) : Int) - (0)).toNat + 2) 0 (w_i64 ((c0.length : Int) - 1))) fun lr38 =>
  Ctl.elim lr38 (fun v => some v) fun x37 =>
  some x37
def itR_back_api_Expr_n (l : List GExpr) : Nat → List (Int × GExpr)
  | 0 => []
  | n + 1 => match l[n]? with
    | some x => ((n : Int), x) :: itR_back_api_Expr_n l n
    | none => []
def itR_back_api_Expr (l : List GExpr) : Option (List (Int × GExpr)) := if l.length < 4611686018427387904 then some (itR_back_api_Expr_n l l.length) else none
def expr_all_1_B2  : Int × GExpr → (List GExpr) → Option (Ctl Unit (List GExpr))
  | (x131, x132), x123 =>
    Option.bind (room ((x123.length : Int) + (([zGExpr] : List GExpr).length : Int)) 56) fun (u133 : Unit) =>
    Option.bind (idx (x123 ++ ([zGExpr] : List GExpr)) (x123.length : Int)) fun (y135 : GExpr) =>
    some (.next ((x123 ++ ([zGExpr] : List GExpr)).set ((x123.length : Int) : Int).toNat x132))
def expr_all_1_L1 (sp : Nat) (rows : List (GExpr)) : Nat → Nat → (List GExpr) → Option (Ctl (Nat) (Nat))
  | 0, _, _ => none
  | n + 1, x48, x49 =>
    if (decide ((x49.length : Int) > 0)) = true then
      Option.bind (idx x49 (w_i64 ((x49.length : Int) - 1))) fun (y102 : GExpr) =>
      Option.bind (cutL x49 0 (w_i64 ((x49.length : Int) - 1))) fun (y106 : List GExpr) =>
      Option.bind (yck rows sp x48 y102) fun (u110 : Unit) =>
      if (!(!(x48 == sp))) = true then
        some (.stop (x48 + 1))
      else
        Option.bind (slices_Backward_api_Expr y102.fKids) fun (y115 : (List GExpr)) =>
        Option.bind (itR_back_api_Expr y115) fun (rows138 : List (Int × GExpr)) =>
        Option.bind (runs expr_all_1_B2 rows138 y106) fun (lr140 : Ctl Unit (List GExpr)) =>
        Ctl.elim lr140 (fun _ => none) (fun x123 =>
          expr_all_1_L1 sp rows n (x48 + 1) x123)
    else
      some (.next x48)
def expr_all_1 (rows : List (GExpr)) (sp : Nat) (c0 : GExpr) : Option Nat :=
  Option.bind (expr_all_1_L1 sp rows (mGExpr c0 + 2) 0 [c0]) fun lr149 =>
  Ctl.elim lr149 (fun v => some v) fun x148 =>
  some x148
mutual
def preE : GExpr → List GExpr
  | ⟨k, n, nm, l⟩ => ⟨k, n, nm, l⟩ :: preEL l
def preEL : List GExpr → List GExpr
  | [] => []
  | x :: l => preE x ++ preEL l
end
def itR_all (e : GExpr) : Option (List GExpr) := if mGExpr e ≤ 1000000 then some (preE e) else none
def expr_Names_B1  : GExpr → (List (List UInt8)) → Option (Ctl Unit (List (List UInt8)))
  | x15, x9 =>
    if (x15.fKind == 2) = true then
      Option.bind (room ((x9.length : Int) + ([x15.fName].length : Int)) 16) fun (u17 : Unit) =>
      some (.next (x9 ++ [x15.fName]))
    else
      some (.next x9)
def expr_Names (a0 : GExpr) : Option (List (List UInt8)) :=
  Option.bind (expr_all a0) fun (y3 : GExpr) =>
  Option.bind (itR_all y3) fun (rows20 : List (GExpr)) =>
  Option.bind (runs expr_Names_B1 rows20 []) fun (lr22 : Ctl Unit (List (List UInt8))) =>
  Ctl.elim lr22 (fun _ => none) (fun x9 =>
    some x9)
def scope_names_1_L2 (sp : Nat) (rows : List ((List UInt8))) (y129 : (List (List UInt8))) : Nat → Nat → Int → Option (Ctl (Nat) (Nat))
  | 0, _, _ => none
  | n + 1, x141, x142 =>
    if (decide (x142 < (y129.length : Int))) = true then
      Option.bind (idx y129 x142) fun (y158 : List UInt8) =>
      Option.bind (yck rows sp x141 y158) fun (u162 : Unit) =>
      if (!(!(x141 == sp))) = true then
        some (.stop (x141 + 1))
      else
        scope_names_1_L2 sp rows y129 n (x141 + 1) (w_i64 (x142 + 1))
    else
      some (.next x141)
def scope_names_1_L1 (c0 : GStmt) (sp : Nat) (rows : List ((List UInt8))) : Nat → Nat → Int → Option (Ctl (Nat) (Nat))
  | 0, _, _ => none
  | n + 1, x70, x71 =>
    if (decide (x71 < (([c0.fE] ++ c0.fArgs).length : Int))) = true then
      Option.bind (idx ([c0.fE] ++ c0.fArgs) x71) fun (y125 : GExpr) =>
      Option.bind (expr_Names y125) fun (y129 : (List (List UInt8))) =>
      Option.bind (scope_names_1_L2 sp rows y129 ((((y129.length : Int) : Int) - (0)).toNat + 1) x70 0) fun lr168 =>
      Ctl.elim lr168 (fun v => some (.stop v)) fun x167 =>
      scope_names_1_L1 c0 sp rows n x167 (w_i64 (x71 + 1))
    else
      some (.next x70)
def scope_names_1 (rows : List ((List UInt8))) (sp : Nat) (c0 : GStmt) : Option Nat :=
  Option.bind (if (!(c0.fX == [])) = true then
    Option.bind (yck rows sp 0 c0.fX) fun (u2 : Unit) =>
    if (!(!(0 == sp))) = true then
      some ((0 + 1), true)
    else
      if (!(c0.fY == [])) = true then
        if (!(c0.fY == [116, 104, 105, 115])) = true then
          Option.bind (yck rows sp (0 + 1) c0.fY) fun (u7 : Unit) =>
          some (((0 + 1) + 1), (!(!((0 + 1) == sp))))
        else
          some ((0 + 1), false)
      else
        some ((0 + 1), false)
  else
    if (!(c0.fY == [])) = true then
      if (!(c0.fY == [116, 104, 105, 115])) = true then
        Option.bind (yck rows sp 0 c0.fY) fun (u11 : Unit) =>
        some ((0 + 1), (!(!(0 == sp))))
      else
        some (0, false)
    else
      some (0, false) : Option (Nat × Bool)) fun (x13, x14) =>
  if x14 = true then
    some x13
  else
    Option.bind (room (([c0.fE].length : Int) + (c0.fArgs.length : Int)) 56) fun (u20 : Unit) =>
    Option.bind (scope_names_1_L1 c0 sp rows ((((([c0.fE] ++ c0.fArgs).length : Int) : Int) - (0)).toNat + 1) x13 0) fun lr173 =>
    Ctl.elim lr173 (fun v => some v) fun x172 =>
    some x172
def namesE : List GExpr → Option (List (List UInt8))
  | [] => some []
  | e :: l => Option.bind (expr_Names e) fun a => Option.bind (namesE l) fun b => some (a ++ b)
def itR_names (s : GStmt) : Option (List (List UInt8)) := Option.bind (namesE (s.fE :: s.fArgs)) fun r => if s.fArgs.length ≤ 1000000 ∧ r.length ≤ 1000000000 then some ((if s.fX == [] then [] else [s.fX]) ++ ((if s.fY == [] || s.fY == [116, 104, 105, 115] then [] else [s.fY]) ++ r)) else none
def scope_Unknown_B1 (a0 : GMethod) : (List UInt8) → Unit → Option (Ctl (List UInt8) Unit)
  | x25, _ =>
    Option.bind (Option.bind (scope_Place a0 x25) fun (y28 : Int) =>
    if (decide (y28 < 0)) = true then
      some (!(x25 == []))
    else
      some false : Option (Bool)) fun x31 =>
    if x31 = true then
      some (.stop x25)
    else
      some (.next ())
def scope_Unknown (a0 : GMethod) (a1 : GStmt) : Option (List UInt8) :=
  Option.bind (scope_names a1) fun (y3 : GStmt) =>
  Option.bind (itR_names y3) fun (rows36 : List ((List UInt8))) =>
  Option.bind (runs (scope_Unknown_B1 a0) rows36 ()) fun (lr38 : Ctl (List UInt8) Unit) =>
  Ctl.elim lr38 (fun x35 =>
    some x35) (fun _ =>
    some [])
def law18_awake  : Option Bool :=
  Option.bind (scope_Place ({ fName := [], fPure := false, fRet := zGType, fParams := [({ fName := [97], fType := zGType, fAt := 0 } : GVar)], fLocals := [({ fName := [120], fType := zGType, fAt := 0 } : GVar)], fBody := [], fAt := 0 } : GMethod) [120]) fun (y1 : Int) =>
  if (y1 == 1) = true then
    Option.bind (scope_Place ({ fName := [], fPure := false, fRet := zGType, fParams := [({ fName := [97], fType := zGType, fAt := 0 } : GVar)], fLocals := [({ fName := [120], fType := zGType, fAt := 0 } : GVar)], fBody := [], fAt := 0 } : GMethod) [121]) fun (y4 : Int) =>
    if (y4 == (-1)) = true then
      Option.bind (scope_Unknown ({ fName := [], fPure := false, fRet := zGType, fParams := [({ fName := [97], fType := zGType, fAt := 0 } : GVar)], fLocals := [({ fName := [120], fType := zGType, fAt := 0 } : GVar)], fBody := [], fAt := 0 } : GMethod) ({ fKind := 0, fX := [120], fY := [122], fName := [], fType := zGType, fE := zGExpr, fArgs := [], fBody := [], fElse := [], fAt := 0 } : GStmt)) fun (y7 : (List UInt8)) =>
      some (y7 == [122])
    else
      some false
  else
    some false
def raise_This_L1 (a0 : GClass) : Nat → (List GOwner) → Int → Option ((List GOwner))
  | 0, _, _ => none
  | n + 1, x10, x11 =>
    if (decide (x11 < ((List.replicate (w_i64 ((a0.fParams.length : Int) + 1) : Int).toNat zGOwner).length : Int))) = true then
      Option.bind (idx x10 x11) fun (y22 : GOwner) =>
      raise_This_L1 a0 n (x10.set (x11 : Int).toNat ({ fKind := 3, fN := x11 } : GOwner)) (w_i64 (x11 + 1))
    else
      some x10
def raise_This (a0 : GClass) : Option (List GOwner) :=
  Option.bind (mkOk (w_i64 ((a0.fParams.length : Int) + 1)) (w_i64 ((a0.fParams.length : Int) + 1)) 16) fun (u3 : Unit) =>
  Option.bind (raise_This_L1 a0 (((((List.replicate (w_i64 ((a0.fParams.length : Int) + 1) : Int).toNat zGOwner).length : Int) : Int) - (0)).toNat + 1) (List.replicate (w_i64 ((a0.fParams.length : Int) + 1) : Int).toNat zGOwner) 0) fun x26 =>
  Option.bind (idx x26 0) fun (y28 : GOwner) =>
  some (x26.set (0 : Int).toNat ({ fKind := 2, fN := 0 } : GOwner))
def scope_This (a0 : GClass) : Option GType :=
  Option.bind (raise_This a0) fun (y1 : (List GOwner)) =>
  some ({ ({ ({ fKind := 2, fClass := a0.fName, fN := 0, fOwn := (⟨zGOwner, zGOwner, zGOwner, zGOwner⟩ : A4 GOwner) } : GType) with fOwn := (A4.cp (({ fKind := 2, fClass := a0.fName, fN := 0, fOwn := (⟨zGOwner, zGOwner, zGOwner, zGOwner⟩ : A4 GOwner) } : GType).fOwn) y1) } : GType) with fN := w_i64 ((Nat.min (List.map eGOwner y1).length 4 : Nat) - 1) } : GType)
def slices_Grow_api_Var (a1 : Int) : Option (List GVar) :=
  if (decide (a1 < 0)) = true then
    none
  else
    if (decide ((w_i64 (a1 - (w_i64 (0 - 0)))) > 0)) = true then
      Option.bind (zerOk (w_i64 (a1 - (w_i64 (0 - 0)))) 120) fun (u3 : Unit) =>
      Option.bind (cutL (List.replicate (w_i64 (a1 - (w_i64 (0 - 0))) : Int).toNat zGVar) 0 0) fun (y5 : List GVar) =>
      some y5
    else
      some []
def slices_Concat_api_Var_L1 (a0 : List (List GVar)) : Nat → Int → Int → Option (Int)
  | 0, _, _ => none
  | n + 1, x7, x8 =>
    if (decide (x8 < (a0.length : Int))) = true then
      Option.bind (idx a0 x8) fun (y20 : List GVar) =>
      if (decide ((w_i64 (x7 + (y20.length : Int))) < 0)) = true then
        none
      else
        slices_Concat_api_Var_L1 a0 n (w_i64 (x7 + (y20.length : Int))) (w_i64 (x8 + 1))
    else
      some x7
def slices_Concat_api_Var_L2 (a0 : List (List GVar)) : Nat → (List GVar) → Int → Option ((List GVar))
  | 0, _, _ => none
  | n + 1, x40, x41 =>
    if (decide (x41 < (a0.length : Int))) = true then
      Option.bind (idx a0 x41) fun (y56 : List GVar) =>
      Option.bind (room ((x40.length : Int) + (y56.length : Int)) 120) fun (u60 : Unit) =>
      slices_Concat_api_Var_L2 a0 n (x40 ++ y56) (w_i64 (x41 + 1))
    else
      some x40
def slices_Concat_api_Var (a0 : List (List GVar)) : Option (List GVar) :=
  Option.bind (slices_Concat_api_Var_L1 a0 ((((a0.length : Int) : Int) - (0)).toNat + 1) 0 0) fun x25 =>
  Option.bind (slices_Grow_api_Var x25) fun (y29 : (List GVar)) =>
  Option.bind (slices_Concat_api_Var_L2 a0 ((((a0.length : Int) : Int) - (0)).toNat + 1) y29 0) fun x64 =>
  some x64
def arena_Vars (a0 : GMethod) : Option (List GVar) :=
  Option.bind (slices_Concat_api_Var [a0.fParams, a0.fLocals]) fun (y1 : (List GVar)) =>
  some y1
def scope_Type (a0 : GClass) (a1 : GMethod) (a2 : List UInt8) : Option (GType × Bool) :=
  if (a2 == [116, 104, 105, 115]) = true then
    Option.bind (scope_This a0) fun (y2 : GType) =>
    some (y2, true)
  else
    Option.bind (scope_Place a1 a2) fun (y6 : Int) =>
    if (decide (y6 < 0)) = true then
      some (({ fKind := 0, fClass := [], fN := 0, fOwn := (⟨zGOwner, zGOwner, zGOwner, zGOwner⟩ : A4 GOwner) } : GType), false)
    else
      Option.bind (arena_Vars a1) fun (y9 : (List GVar)) =>
      Option.bind (idx y9 y6) fun (y11 : GVar) =>
      some (y11.fType, true)
def scope_Start_L1 (y3 : (List GVar)) : Nat → (List GVal) → Int → Option ((List GVal))
  | 0, _, _ => none
  | n + 1, x14, x15 =>
    if (decide (x15 < (y3.length : Int))) = true then
      Option.bind (idx y3 x15) fun (y30 : GVar) =>
      Option.bind (room ((x14.length : Int) + ([({ fRef := (y30.fType.fKind == 2), fN := 0 } : GVal)].length : Int)) 16) fun (u34 : Unit) =>
      scope_Start_L1 y3 n (x14 ++ [({ fRef := (y30.fType.fKind == 2), fN := 0 } : GVal)]) (w_i64 (x15 + 1))
    else
      some x14
def scope_Start (a0 : GMethod) : Option (List GVal) :=
  Option.bind (arena_Vars a0) fun (y3 : (List GVar)) =>
  Option.bind (scope_Start_L1 y3 ((((y3.length : Int) : Int) - (0)).toNat + 1) [] 0) fun x38 =>
  some x38
def law18_ScopeMore (a0 : GMethod) (a1 : GVar) (a2 : List UInt8) : Option Bool :=
  Option.bind (Option.bind (law18_great a0) fun (y3 : Bool) =>
  if y3 = true then
    some true
  else
    if (a1.fName == [116, 104, 105, 115]) = true then
      some true
    else
      some (a2 == [116, 104, 105, 115]) : Option (Bool)) fun x7 =>
  if x7 = true then
    Option.bind law18_awake fun (y11 : Bool) =>
    some y11
  else
    Option.bind (room ((([] : List GVar).length : Int) + (a0.fLocals.length : Int)) 120) fun (u17 : Unit) =>
    Option.bind (room (((([] : List GVar) ++ a0.fLocals).length : Int) + ([a1].length : Int)) 120) fun (u19 : Unit) =>
    Option.bind (scope_Place a0 a1.fName) fun (y27 : Int) =>
    Option.bind (scope_Place ({ fName := a0.fName, fPure := a0.fPure, fRet := ({ fKind := a0.fRet.fKind, fClass := a0.fRet.fClass, fN := a0.fRet.fN, fOwn := (⟨({ fKind := a0.fRet.fOwn.a0.fKind, fN := a0.fRet.fOwn.a0.fN } : GOwner), ({ fKind := a0.fRet.fOwn.a1.fKind, fN := a0.fRet.fOwn.a1.fN } : GOwner), ({ fKind := a0.fRet.fOwn.a2.fKind, fN := a0.fRet.fOwn.a2.fN } : GOwner), ({ fKind := a0.fRet.fOwn.a3.fKind, fN := a0.fRet.fOwn.a3.fN } : GOwner)⟩ : A4 GOwner) } : GType), fParams := a0.fParams, fLocals := ((([] : List GVar) ++ a0.fLocals) ++ [a1]), fBody := a0.fBody, fAt := a0.fAt } : GMethod) a1.fName) fun (y29 : Int) =>
    Option.bind (scope_Type ({ fName := [], fParams := [], fSuper := [], fAbove := [], fFields := [], fMethods := [], fAt := 0 } : GClass) ({ fName := a0.fName, fPure := a0.fPure, fRet := ({ fKind := a0.fRet.fKind, fClass := a0.fRet.fClass, fN := a0.fRet.fN, fOwn := (⟨({ fKind := a0.fRet.fOwn.a0.fKind, fN := a0.fRet.fOwn.a0.fN } : GOwner), ({ fKind := a0.fRet.fOwn.a1.fKind, fN := a0.fRet.fOwn.a1.fN } : GOwner), ({ fKind := a0.fRet.fOwn.a2.fKind, fN := a0.fRet.fOwn.a2.fN } : GOwner), ({ fKind := a0.fRet.fOwn.a3.fKind, fN := a0.fRet.fOwn.a3.fN } : GOwner)⟩ : A4 GOwner) } : GType), fParams := a0.fParams, fLocals := ((([] : List GVar) ++ a0.fLocals) ++ [a1]), fBody := a0.fBody, fAt := a0.fAt } : GMethod) a1.fName) fun (y33 : GType × Bool) =>
    Option.bind (scope_Place a0 a2) fun (y37 : Int) =>
    Option.bind (if (decide (y27 ≥ 0)) = true then
      if (y29 != y27) = true then
        some true
      else
        if (decide (y27 < 0)) = true then
          if (y29 != (w_i64 ((a0.fParams.length : Int) + (a0.fLocals.length : Int)))) = true then
            some true
          else
            if (!(bGType y33.1 a1.fType)) = true then
              some true
            else
              if (!y33.2) = true then
                some true
              else
                Option.bind (scope_Start ({ fName := a0.fName, fPure := a0.fPure, fRet := ({ fKind := a0.fRet.fKind, fClass := a0.fRet.fClass, fN := a0.fRet.fN, fOwn := (⟨({ fKind := a0.fRet.fOwn.a0.fKind, fN := a0.fRet.fOwn.a0.fN } : GOwner), ({ fKind := a0.fRet.fOwn.a1.fKind, fN := a0.fRet.fOwn.a1.fN } : GOwner), ({ fKind := a0.fRet.fOwn.a2.fKind, fN := a0.fRet.fOwn.a2.fN } : GOwner), ({ fKind := a0.fRet.fOwn.a3.fKind, fN := a0.fRet.fOwn.a3.fN } : GOwner)⟩ : A4 GOwner) } : GType), fParams := a0.fParams, fLocals := ((([] : List GVar) ++ a0.fLocals) ++ [a1]), fBody := a0.fBody, fAt := a0.fAt } : GMethod)) fun (y45 : (List GVal)) =>
                if ((y45.length : Int) != (w_i64 ((w_i64 ((a0.fParams.length : Int) + (a0.fLocals.length : Int))) + 1))) = true then
                  some true
                else
                  if (decide (y37 < (-1))) = true then
                    some true
                  else
                    some (decide (y37 ≥ (w_i64 ((a0.fParams.length : Int) + (a0.fLocals.length : Int)))))
        else
          if (!y33.2) = true then
            some true
          else
            Option.bind (scope_Start ({ fName := a0.fName, fPure := a0.fPure, fRet := ({ fKind := a0.fRet.fKind, fClass := a0.fRet.fClass, fN := a0.fRet.fN, fOwn := (⟨({ fKind := a0.fRet.fOwn.a0.fKind, fN := a0.fRet.fOwn.a0.fN } : GOwner), ({ fKind := a0.fRet.fOwn.a1.fKind, fN := a0.fRet.fOwn.a1.fN } : GOwner), ({ fKind := a0.fRet.fOwn.a2.fKind, fN := a0.fRet.fOwn.a2.fN } : GOwner), ({ fKind := a0.fRet.fOwn.a3.fKind, fN := a0.fRet.fOwn.a3.fN } : GOwner)⟩ : A4 GOwner) } : GType), fParams := a0.fParams, fLocals := ((([] : List GVar) ++ a0.fLocals) ++ [a1]), fBody := a0.fBody, fAt := a0.fAt } : GMethod)) fun (y50 : (List GVal)) =>
            if ((y50.length : Int) != (w_i64 ((w_i64 ((a0.fParams.length : Int) + (a0.fLocals.length : Int))) + 1))) = true then
              some true
            else
              if (decide (y37 < (-1))) = true then
                some true
              else
                some (decide (y37 ≥ (w_i64 ((a0.fParams.length : Int) + (a0.fLocals.length : Int)))))
    else
      if (decide (y27 < 0)) = true then
        if (y29 != (w_i64 ((a0.fParams.length : Int) + (a0.fLocals.length : Int)))) = true then
          some true
        else
          if (!(bGType y33.1 a1.fType)) = true then
            some true
          else
            if (!y33.2) = true then
              some true
            else
              Option.bind (scope_Start ({ fName := a0.fName, fPure := a0.fPure, fRet := ({ fKind := a0.fRet.fKind, fClass := a0.fRet.fClass, fN := a0.fRet.fN, fOwn := (⟨({ fKind := a0.fRet.fOwn.a0.fKind, fN := a0.fRet.fOwn.a0.fN } : GOwner), ({ fKind := a0.fRet.fOwn.a1.fKind, fN := a0.fRet.fOwn.a1.fN } : GOwner), ({ fKind := a0.fRet.fOwn.a2.fKind, fN := a0.fRet.fOwn.a2.fN } : GOwner), ({ fKind := a0.fRet.fOwn.a3.fKind, fN := a0.fRet.fOwn.a3.fN } : GOwner)⟩ : A4 GOwner) } : GType), fParams := a0.fParams, fLocals := ((([] : List GVar) ++ a0.fLocals) ++ [a1]), fBody := a0.fBody, fAt := a0.fAt } : GMethod)) fun (y58 : (List GVal)) =>
              if ((y58.length : Int) != (w_i64 ((w_i64 ((a0.fParams.length : Int) + (a0.fLocals.length : Int))) + 1))) = true then
                some true
              else
                if (decide (y37 < (-1))) = true then
                  some true
                else
                  some (decide (y37 ≥ (w_i64 ((a0.fParams.length : Int) + (a0.fLocals.length : Int)))))
      else
        if (!y33.2) = true then
          some true
        else
          Option.bind (scope_Start ({ fName := a0.fName, fPure := a0.fPure, fRet := ({ fKind := a0.fRet.fKind, fClass := a0.fRet.fClass, fN := a0.fRet.fN, fOwn := (⟨({ fKind := a0.fRet.fOwn.a0.fKind, fN := a0.fRet.fOwn.a0.fN } : GOwner), ({ fKind := a0.fRet.fOwn.a1.fKind, fN := a0.fRet.fOwn.a1.fN } : GOwner), ({ fKind := a0.fRet.fOwn.a2.fKind, fN := a0.fRet.fOwn.a2.fN } : GOwner), ({ fKind := a0.fRet.fOwn.a3.fKind, fN := a0.fRet.fOwn.a3.fN } : GOwner)⟩ : A4 GOwner) } : GType), fParams := a0.fParams, fLocals := ((([] : List GVar) ++ a0.fLocals) ++ [a1]), fBody := a0.fBody, fAt := a0.fAt } : GMethod)) fun (y63 : (List GVal)) =>
          if ((y63.length : Int) != (w_i64 ((w_i64 ((a0.fParams.length : Int) + (a0.fLocals.length : Int))) + 1))) = true then
            some true
          else
            if (decide (y37 < (-1))) = true then
              some true
            else
              some (decide (y37 ≥ (w_i64 ((a0.fParams.length : Int) + (a0.fLocals.length : Int))))) : Option (Bool)) fun x67 =>
    if x67 = true then
      some false
    else
      if (a2 == a1.fName) = true then
        Option.bind law18_awake fun (y72 : Bool) =>
        some y72
      else
        Option.bind (scope_Place ({ fName := a0.fName, fPure := a0.fPure, fRet := ({ fKind := a0.fRet.fKind, fClass := a0.fRet.fClass, fN := a0.fRet.fN, fOwn := (⟨({ fKind := a0.fRet.fOwn.a0.fKind, fN := a0.fRet.fOwn.a0.fN } : GOwner), ({ fKind := a0.fRet.fOwn.a1.fKind, fN := a0.fRet.fOwn.a1.fN } : GOwner), ({ fKind := a0.fRet.fOwn.a2.fKind, fN := a0.fRet.fOwn.a2.fN } : GOwner), ({ fKind := a0.fRet.fOwn.a3.fKind, fN := a0.fRet.fOwn.a3.fN } : GOwner)⟩ : A4 GOwner) } : GType), fParams := a0.fParams, fLocals := ((([] : List GVar) ++ a0.fLocals) ++ [a1]), fBody := a0.fBody, fAt := a0.fAt } : GMethod) a2) fun (y74 : Int) =>
        if (y74 == y37) = true then
          Option.bind law18_awake fun (y77 : Bool) =>
          some y77
        else
          some false
end
end Go.Proofs.Ytiblofbgibjobaa
