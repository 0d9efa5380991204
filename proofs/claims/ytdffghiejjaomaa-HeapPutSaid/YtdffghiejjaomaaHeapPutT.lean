/- A part of the proof that the law HeapPut gives true for every input. -/
import Derived.Test.YtdffghiejjaomaaAbsP
/- The types and the plain functions. -/
namespace Go.Proofs.Ytdffghiejjaomaa
open Go.RowKit Go.Abs
structure GVal where
  fRef : Bool
  fN : Int
  deriving DecidableEq
abbrev eGVal (x : GVal) : List PV := [.bool x.fRef, .int .i64 x.fN]
structure GCell where
  fClass : List UInt8
  fOwn : A4 Int
  fFields : List GVal
  fDead : Bool
  deriving DecidableEq
abbrev eGCell (x : GCell) : List PV := [.str x.fClass, .int .i64 x.fOwn.a0, .int .i64 x.fOwn.a1, .int .i64 x.fOwn.a2, .int .i64 x.fOwn.a3, .vs 2 (List.map eGVal x.fFields), .bool x.fDead]
structure GSlot_law35 where
  fAt : Int
  fI : Int
  fV : GVal
  deriving DecidableEq
abbrev eGSlot_law35 (x : GSlot_law35) : List PV := [.int .i64 x.fAt, .int .i64 x.fI, .bool x.fV.fRef, .int .i64 x.fV.fN]
def bA4Int (a b : A4 Int) : Bool := (a.a0 == b.a0 && (a.a1 == b.a1 && (a.a2 == b.a2 && (a.a3 == b.a3 && true))))
def bGVal (a b : GVal) : Bool := (a.fRef == b.fRef && (a.fN == b.fN && true))
def ref35_Great_L1 (a0 : List GCell) : Nat → Int → Option (Ctl (Bool) (Unit))
  | 0, _ => none
  | n + 1, x9 =>
    if (decide (x9 < (a0.length : Int))) = true then
      Option.bind (if (decide ((a0.length : Int) > 200)) = true then
        some true
      else
        Option.bind (idx a0 x9) fun (y21 : GCell) =>
        some (decide ((y21.fFields.length : Int) > 60)) : Option (Bool)) fun x23 =>
      if x23 = true then
        some (.stop true)
      else
        ref35_Great_L1 a0 n (w_i64 (x9 + 1))
    else
      some (.next ())
def ref35_Great (a0 : List GCell) : Option Bool :=
  Option.bind (ref35_Great_L1 a0 ((((a0.length : Int)) - (0)).toNat + 1) 0) fun lr28 =>
  Ctl.elim lr28 (fun v => some v) fun _ =>
  some false
def heap_Ask (a0 : List GCell) (a1 : Int) : Option Int :=
  if (a1 == 0) = true then
    some 2
  else
    Option.bind (if (decide (a1 < 0)) = true then
      some true
    else
      some (decide (a1 > (a0.length : Int))) : Option (Bool)) fun x3 =>
    if x3 = true then
      some 10
    else
      Option.bind (idx a0 (w_i64 (a1 - 1))) fun (y9 : GCell) =>
      if y9.fDead = true then
        some 7
      else
        some 0
def law35_awake  : Option Bool :=
  Option.bind (heap_Ask [] 0) fun (y1 : Int) =>
  if (y1 == 2) = true then
    Option.bind (heap_Ask [] 1) fun (y4 : Int) =>
    some (y4 == 10)
  else
    some false
def heap_Get (a0 : List GCell) (a1 : Int) (a2 : Int) : Option (GVal × Int) :=
  Option.bind (heap_Ask a0 a1) fun (y3 : Int) =>
  if (y3 != 0) = true then
    some (({ fRef := false, fN := 0 } : GVal), y3)
  else
    Option.bind (idx a0 (w_i64 (a1 - 1))) fun (y8 : GCell) =>
    Option.bind (if (decide (a2 < 0)) = true then
      some true
    else
      some (decide (a2 ≥ (y8.fFields.length : Int))) : Option (Bool)) fun x11 =>
    if x11 = true then
      some (({ fRef := false, fN := 0 } : GVal), 8)
    else
      Option.bind (idx y8.fFields a2) fun (y15 : GVal) =>
      some (y15, 0)
def heap_own (a0 : List GCell) : Option (List GCell) :=
  Option.bind (mkOk (a0.length : Int) (w_i64 ((a0.length : Int) + 1)) 80) fun (u3 : Unit) =>
  some (a0.take (List.replicate ((a0.length : Int)).toNat ({ fClass := [], fOwn := (⟨0, 0, 0, 0⟩ : A4 Int), fFields := [], fDead := false } : GCell)).length ++ (List.replicate ((a0.length : Int)).toNat ({ fClass := [], fOwn := (⟨0, 0, 0, 0⟩ : A4 Int), fFields := [], fDead := false } : GCell)).drop a0.length)
def slices_Clone_api_Val (a0 : List GVal) : Option (List GVal) :=
  Option.bind (room ((([] : List GVal).length : Int) + (a0.length : Int)) 16) fun _ =>
  some a0
def heap_Put (a0 : List GCell) (a1 : Int) (a2 : Int) (a3 : GVal) : Option ((List GCell) × Int) :=
  Option.bind (heap_Get a0 a1 a2) fun (y3 : GVal × Int) =>
  if (y3.2 != 0) = true then
    some ([], y3.2)
  else
    Option.bind (heap_own a0) fun (y8 : (List GCell)) =>
    Option.bind (idx a0 (w_i64 (a1 - 1))) fun (y14 : GCell) =>
    Option.bind (slices_Clone_api_Val y14.fFields) fun (y16 : List GVal) =>
    Option.bind (idx y16 a2) fun (y20 : GVal) =>
    Option.bind (idx y8 (w_i64 (a1 - 1))) fun (y22 : GCell) =>
    some ((y8.set (w_i64 (a1 - 1)).toNat ({ y22 with fFields := (y16.set (a2).toNat a3) })), 0)
def heap_New (a0 : List GCell) (a1 : GCell) : Option ((List GCell) × Int) :=
  Option.bind (slices_Clone_api_Val a1.fFields) fun (y3 : List GVal) =>
  Option.bind (heap_own a0) fun (y5 : (List GCell)) =>
  Option.bind (room ((y5.length : Int) + ([{ { a1 with fDead := false } with fFields := y3 }].length : Int)) 80) fun (u7 : Unit) =>
  some ((y5 ++ [{ { a1 with fDead := false } with fFields := y3 }]), w_i64 ((a0.length : Int) + 1))
def ref35_Vals_L1 (a0 : List GVal) (a1 : List GVal) : Nat → Int → Option (Ctl (Bool) (Unit))
  | 0, _ => none
  | n + 1, x12 =>
    if (decide (x12 < (a0.length : Int))) = true then
      Option.bind (idx a0 x12) fun (y29 : GVal) =>
      Option.bind (idx a1 x12) fun (y31 : GVal) =>
      if (!(bGVal y29 y31)) = true then
        some (.stop false)
      else
        ref35_Vals_L1 a0 a1 n (w_i64 (x12 + 1))
    else
      some (.next ())
def ref35_Vals (a0 : List GVal) (a1 : List GVal) : Option Bool :=
  if ((a0.length : Int) != (a1.length : Int)) = true then
    some false
  else
    Option.bind (ref35_Vals_L1 a0 a1 ((((a0.length : Int)) - (0)).toNat + 1) 0) fun lr35 =>
    Ctl.elim lr35 (fun v => some v) fun _ =>
    some true
def ref35_Same_L1 (a0 : List GCell) (a1 : List GCell) : Nat → Int → Option (Ctl (Bool) (Unit))
  | 0, _ => none
  | n + 1, x32 =>
    if (decide (x32 < (a0.length : Int))) = true then
      Option.bind (Option.bind (idx a0 x32) fun (y69 : GCell) =>
      Option.bind (idx a1 x32) fun (y71 : GCell) =>
      if (!(y69.fClass == y71.fClass)) = true then
        some true
      else
        Option.bind (idx a0 x32) fun (y74 : GCell) =>
        Option.bind (idx a1 x32) fun (y76 : GCell) =>
        if (!(bA4Int y74.fOwn y76.fOwn)) = true then
          some true
        else
          Option.bind (idx a0 x32) fun (y79 : GCell) =>
          Option.bind (idx a1 x32) fun (y81 : GCell) =>
          if (!(y79.fDead == y81.fDead)) = true then
            some true
          else
            Option.bind (idx a0 x32) fun (y84 : GCell) =>
            Option.bind (idx a1 x32) fun (y86 : GCell) =>
            Option.bind (ref35_Vals y84.fFields y86.fFields) fun (y88 : Bool) =>
            some (!y88) : Option (Bool)) fun x90 =>
      if x90 = true then
        some (.stop false)
      else
        ref35_Same_L1 a0 a1 n (w_i64 (x32 + 1))
    else
      some (.next ())
def ref35_Same (a0 : List GCell) (a1 : List GCell) : Option Bool :=
  if ((a0.length : Int) != (a1.length : Int)) = true then
    some false
  else
    Option.bind (ref35_Same_L1 a0 a1 ((((a0.length : Int)) - (0)).toNat + 1) 0) fun lr95 =>
    Ctl.elim lr95 (fun v => some v) fun _ =>
    some true
def heap_Live_L1 (a0 : List GCell) : Nat → (List Int) → Int → Option ((List Int))
  | 0, _, _ => none
  | n + 1, x12, x13 =>
    if (decide (x13 < (a0.length : Int))) = true then
      Option.bind (Option.bind (idx a0 x13) fun (y30 : GCell) =>
      if (!y30.fDead) = true then
        Option.bind (room ((x12.length : Int) + ([w_i64 (x13 + 1)].length : Int)) 8) fun (u33 : Unit) =>
        some (x12 ++ [w_i64 (x13 + 1)])
      else
        some x12 : Option ((List Int))) fun x35 =>
      heap_Live_L1 a0 n x35 (w_i64 (x13 + 1))
    else
      some x12
def heap_Live (a0 : List GCell) : Option (List Int) :=
  Option.bind (heap_Live_L1 a0 ((((a0.length : Int)) - (0)).toNat + 1) [] 0) fun x40 =>
  some x40
def law35_HeapPut_L1 (a0 : List GCell) : Nat → (List GCell) → Int → Option ((List GCell))
  | 0, _, _ => none
  | n + 1, x25, x26 =>
    if (decide (x26 < (a0.length : Int))) = true then
      Option.bind (idx a0 x26) fun (y45 : GCell) =>
      Option.bind (room ((([] : List GVal).length : Int) + (y45.fFields.length : Int)) 16) fun (u49 : Unit) =>
      Option.bind (room ((x25.length : Int) + ([{ y45 with fFields := (([] : List GVal) ++ y45.fFields) }].length : Int)) 80) fun (u53 : Unit) =>
      law35_HeapPut_L1 a0 n (x25 ++ [{ y45 with fFields := (([] : List GVal) ++ y45.fFields) }]) (w_i64 (x26 + 1))
    else
      some x25
def law35_HeapPut (a0 : List GCell) (a1 : A2 GSlot_law35) (a2 : GCell) : Option Bool :=
  Option.bind (Option.bind (ref35_Great a0) fun (y3 : Bool) =>
  if y3 = true then
    some true
  else
    some (decide ((a2.fFields.length : Int) > 60)) : Option (Bool)) fun x6 =>
  if x6 = true then
    Option.bind law35_awake fun (y10 : Bool) =>
    some y10
  else
    Option.bind (law35_HeapPut_L1 a0 ((((a0.length : Int)) - (0)).toNat + 1) [] 0) fun x57 =>
    Option.bind (heap_Get a0 a1.a1.fAt a1.a1.fI) fun (y61 : GVal × Int) =>
    Option.bind (heap_Put a0 a1.a0.fAt a1.a0.fI a1.a0.fV) fun (y65 : (List GCell) × Int) =>
    Option.bind (heap_New a0 a2) fun (y69 : (List GCell) × Int) =>
    Option.bind (Option.bind (ref35_Same a0 x57) fun (y73 : Bool) =>
    if (!y73) = true then
      some true
    else
      if (y69.2 != (w_i64 ((a0.length : Int) + 1))) = true then
        some true
      else
        if ((y69.1.length : Int) != y69.2) = true then
          some true
        else
          Option.bind (cutL y69.1 0 (a0.length : Int)) fun (y78 : List GCell) =>
          Option.bind (ref35_Same y78 a0) fun (y80 : Bool) =>
          if (!y80) = true then
            some true
          else
            Option.bind (heap_Ask y69.1 y69.2) fun (y83 : Int) =>
            some (y83 != 0) : Option (Bool)) fun x85 =>
    if x85 = true then
      some false
    else
      if (y65.2 != 0) = true then
        if ((y65.1.length : Int) == 0) = true then
          Option.bind law35_awake fun (y91 : Bool) =>
          some y91
        else
          some false
      else
        Option.bind (heap_Get y65.1 a1.a1.fAt a1.a1.fI) fun (y95 : GVal × Int) =>
        Option.bind (if (a1.a0.fAt == a1.a1.fAt) = true then
          some (a1.a0.fI == a1.a1.fI)
        else
          some false : Option (Bool)) fun x98 =>
        if x98 = true then
          if (bGVal y95.1 a1.a0.fV) = true then
            if (y95.2 == 0) = true then
              Option.bind (heap_Live y65.1) fun (y104 : (List Int)) =>
              Option.bind (heap_Live a0) fun (y106 : (List Int)) =>
              if ((y104.length : Int) == (y106.length : Int)) = true then
                Option.bind law35_awake fun (y109 : Bool) =>
                some y109
              else
                some false
            else
              some false
          else
            some false
        else
          if (bGVal y95.1 y61.1) = true then
            if (y95.2 == y61.2) = true then
              if ((y65.1.length : Int) == (a0.length : Int)) = true then
                Option.bind law35_awake fun (y114 : Bool) =>
                some y114
              else
                some false
            else
              some false
          else
            some false
def ref35_Ask (a0 : List GCell) (a1 : Int) : Option Int :=
  if (a1 == 0) = true then
    some 2
  else
    Option.bind (if (decide (a1 < 1)) = true then
      some true
    else
      some (decide (a1 > (a0.length : Int))) : Option (Bool)) fun x3 =>
    if x3 = true then
      some 10
    else
      Option.bind (idx a0 (w_i64 (a1 - 1))) fun (y9 : GCell) =>
      if y9.fDead = true then
        some 7
      else
        some 0
def ref35_Get (a0 : List GCell) (a1 : Int) (a2 : Int) : Option (GVal × Int) :=
  Option.bind (ref35_Ask a0 a1) fun (y3 : Int) =>
  if (y3 != 0) = true then
    some (({ fRef := false, fN := 0 } : GVal), y3)
  else
    Option.bind (if (decide (a2 < 0)) = true then
      some true
    else
      Option.bind (idx a0 (w_i64 (a1 - 1))) fun (y7 : GCell) =>
      some (decide (a2 ≥ (y7.fFields.length : Int))) : Option (Bool)) fun x9 =>
    if x9 = true then
      some (({ fRef := false, fN := 0 } : GVal), 8)
    else
      Option.bind (idx a0 (w_i64 (a1 - 1))) fun (y13 : GCell) =>
      Option.bind (idx y13.fFields a2) fun (y15 : GVal) =>
      some (y15, 0)
def ref35_Put (a0 : List GCell) (a1 : Int) (a2 : Int) (a3 : GVal) : Option ((List GCell) × Int) :=
  Option.bind (ref35_Get a0 a1 a2) fun (y3 : GVal × Int) =>
  if (y3.2 != 0) = true then
    some ([], y3.2)
  else
    Option.bind (room ((([] : List GCell).length : Int) + (a0.length : Int)) 80) fun (u8 : Unit) =>
    Option.bind (idx (([] : List GCell) ++ a0) (w_i64 (a1 - 1))) fun (y12 : GCell) =>
    Option.bind (room ((([] : List GVal).length : Int) + (y12.fFields.length : Int)) 16) fun (u16 : Unit) =>
    Option.bind (idx (([] : List GVal) ++ y12.fFields) a2) fun (y20 : GVal) =>
    Option.bind (idx (([] : List GCell) ++ a0) (w_i64 (a1 - 1))) fun (y22 : GCell) =>
    some (((([] : List GCell) ++ a0).set (w_i64 (a1 - 1)).toNat ({ fClass := y12.fClass, fOwn := (⟨y12.fOwn.a0, y12.fOwn.a1, y12.fOwn.a2, y12.fOwn.a3⟩ : A4 Int), fFields := ((([] : List GVal) ++ y12.fFields).set (a2).toNat a3), fDead := y12.fDead } : GCell)), 0)
def ref35_New (a0 : List GCell) (a1 : GCell) : Option ((List GCell) × Int) :=
  Option.bind (room ((([] : List GVal).length : Int) + ((({ a1 with fDead := false }).fFields).length : Int)) 16) fun (u3 : Unit) =>
  Option.bind (room ((([] : List GCell).length : Int) + (a0.length : Int)) 80) fun (u5 : Unit) =>
  Option.bind (room (((([] : List GCell) ++ a0).length : Int) + ([{ { a1 with fDead := false } with fFields := (([] : List GVal) ++ ({ a1 with fDead := false }).fFields) }].length : Int)) 80) fun (u7 : Unit) =>
  some (((([] : List GCell) ++ a0) ++ [{ { a1 with fDead := false } with fFields := (([] : List GVal) ++ ({ a1 with fDead := false }).fFields) }]), w_i64 ((a0.length : Int) + 1))
def law35_HeapTells (a0 : List GCell) (a1 : GSlot_law35) (a2 : GCell) : Option Bool :=
  Option.bind (Option.bind (ref35_Great a0) fun (y3 : Bool) =>
  if y3 = true then
    some true
  else
    some (decide ((a2.fFields.length : Int) > 60)) : Option (Bool)) fun x6 =>
  if x6 = true then
    Option.bind law35_awake fun (y10 : Bool) =>
    some y10
  else
    Option.bind (heap_Get a0 a1.fAt a1.fI) fun (y14 : GVal × Int) =>
    Option.bind (ref35_Get a0 a1.fAt a1.fI) fun (y18 : GVal × Int) =>
    Option.bind (heap_Put a0 a1.fAt a1.fI a1.fV) fun (y22 : (List GCell) × Int) =>
    Option.bind (ref35_Put a0 a1.fAt a1.fI a1.fV) fun (y26 : (List GCell) × Int) =>
    Option.bind (heap_New a0 a2) fun (y30 : (List GCell) × Int) =>
    Option.bind (ref35_New a0 a2) fun (y34 : (List GCell) × Int) =>
    Option.bind (heap_Ask a0 a1.fAt) fun (y36 : Int) =>
    Option.bind (ref35_Ask a0 a1.fAt) fun (y38 : Int) =>
    if (y36 == y38) = true then
      if (bGVal y14.1 y18.1) = true then
        if (y14.2 == y18.2) = true then
          if (y22.2 == y26.2) = true then
            Option.bind (ref35_Same y22.1 y26.1) fun (y44 : Bool) =>
            if y44 = true then
              if (y30.2 == y34.2) = true then
                Option.bind (ref35_Same y30.1 y34.1) fun (y48 : Bool) =>
                if y48 = true then
                  Option.bind law35_awake fun (y51 : Bool) =>
                  some y51
                else
                  some false
              else
                some false
            else
              some false
          else
            some false
        else
          some false
      else
        some false
    else
      some false
end Go.Proofs.Ytdffghiejjaomaa
