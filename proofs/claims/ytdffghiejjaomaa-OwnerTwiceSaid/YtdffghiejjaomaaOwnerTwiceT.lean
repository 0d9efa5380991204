/- A part of the proof that the law OwnerTwice gives true for every input. -/
import Derived.Test.YtdffghiejjaomaaAbsP
/- The types and the plain functions. -/
namespace Go.Proofs.Ytdffghiejjaomaa
open Go.RowKit Go.Abs
structure GOwner where
  fKind : Int
  fN : Int
  deriving DecidableEq
abbrev eGOwner (x : GOwner) : List PV := [.int .i64 x.fKind, .int .i64 x.fN]
def bGOwner (a b : GOwner) : Bool := (a.fKind == b.fKind && (a.fN == b.fN && true))
def owner_Put (a0 : GOwner) (a1 : List GOwner) : Option GOwner :=
  Ctl.go (if (a0.fKind == 3) = true then
    .next a0.fN
  else
    if (a0.fKind == 2) = true then
      .next 0
    else
      .stop (some a0) : Ctl (Option GOwner) (Int)) fun x3 =>
  Option.bind (if (decide (x3 < 0)) = true then
    some true
  else
    some (decide (x3 ≥ (a1.length : Int))) : Option (Bool)) fun x5 =>
  if x5 = true then
    some ({ fKind := 8, fN := 0 } : GOwner)
  else
    Option.bind (idx a1 x3) fun (y9 : GOwner) =>
    some y9
def owner_Right (a0 : GOwner) (a1 : Int) : Option Bool :=
  Ctl.go (if (a0.fKind == 3) = true then
    if (decide (a0.fN > 0)) = true then
      .stop (some (decide (a0.fN ≤ a1)))
    else
      .stop (some false)
  else
    if (a0.fKind == 7) = true then
      .stop (some (decide (a0.fN ≥ 0)))
    else
      if (a0.fKind == 1) = true then
        .next ()
      else
        if (a0.fKind == 2) = true then
          .next ()
        else
          obind (if (a0.fKind == 4) = true then
            some (a0.fKind == 4)
          else
            if (a0.fKind == 5) = true then
              some (a0.fKind == 5)
            else
              some (a0.fKind == 6) : Option (Bool)) fun x8 =>
          if x8 = true then
            .next ()
          else
            .stop (some false) : Ctl (Option Bool) (Unit)) fun _ =>
  some (a0.fN == 0)
def owner_Text (a0 : GOwner) (a1 : List (List UInt8)) : Option (List UInt8) :=
  Option.bind (owner_Right a0 (a1.length : Int)) fun (y3 : Bool) =>
  if (!y3) = true then
    some []
  else
    if (a0.fKind == 1) = true then
      some [114, 101, 112]
    else
      if (a0.fKind == 2) = true then
        some [112, 101, 101, 114]
      else
        if (a0.fKind == 4) = true then
          some [119, 111, 114, 108, 100]
        else
          if (a0.fKind == 5) = true then
            some [97, 110, 121]
          else
            if (a0.fKind == 6) = true then
              some [117, 110, 105, 113, 117, 101]
            else
              if (a0.fKind == 7) = true then
                some [63]
              else
                Option.bind (idx a1 (w_i64 (a0.fN - 1))) fun (y12 : List UInt8) =>
                some y12
def law04_awake  : Option Bool :=
  Option.bind (owner_Put ({ fKind := 3, fN := 1 } : GOwner) [({ fKind := 1, fN := 0 } : GOwner), ({ fKind := 4, fN := 0 } : GOwner)]) fun (y1 : GOwner) =>
  if (bGOwner y1 ({ fKind := 4, fN := 0 } : GOwner)) = true then
    Option.bind (cutL [({ fKind := 1, fN := 0 } : GOwner), ({ fKind := 4, fN := 0 } : GOwner)] 0 1) fun (y4 : List GOwner) =>
    Option.bind (owner_Put ({ fKind := 3, fN := 1 } : GOwner) y4) fun (y6 : GOwner) =>
    if (bGOwner y6 ({ fKind := 8, fN := 0 } : GOwner)) = true then
      Option.bind (owner_Text ({ fKind := 3, fN := 1 } : GOwner) [[100, 97, 116, 97]]) fun (y9 : (List UInt8)) =>
      some (y9 == [100, 97, 116, 97])
    else
      some false
  else
    some false
def cmp_isNaN_int_ (a0 : Int) : Option Bool :=
  some (a0 != a0)
def cmp_Compare_int_ (a0 : Int) (a1 : Int) : Option Int :=
  Option.bind (cmp_isNaN_int_ a0) fun (y3 : Bool) =>
  Option.bind (cmp_isNaN_int_ a1) fun (y7 : Bool) =>
  if y3 = true then
    if y7 = true then
      some 0
    else
      some (-1)
  else
    if y7 = true then
      some 1
    else
      if (decide (a0 < a1)) = true then
        some (-1)
      else
        if (decide (a0 > a1)) = true then
          some 1
        else
          some 0
def cmp_Or_int__L1 (a0 : List Int) : Nat → Int → Option (Ctl (Int) (Unit))
  | 0, _ => none
  | n + 1, x7 =>
    if (decide (x7 < (a0.length : Int))) = true then
      Option.bind (idx a0 x7) fun (y18 : Int) =>
      if (y18 != 0) = true then
        some (.stop y18)
      else
        cmp_Or_int__L1 a0 n (w_i64 (x7 + 1))
    else
      some (.next ())
def cmp_Or_int_ (a0 : List Int) : Option Int :=
  Option.bind (cmp_Or_int__L1 a0 ((((a0.length : Int)) - (0)).toNat + 1) 0) fun lr22 =>
  Ctl.elim lr22 (fun v => some v) fun _ =>
  some 0
def owner_Order (a0 : GOwner) (a1 : GOwner) : Option Int :=
  Option.bind (cmp_Compare_int_ a0.fKind a1.fKind) fun (y1 : Int) =>
  Option.bind (cmp_Compare_int_ a0.fN a1.fN) fun (y3 : Int) =>
  Option.bind (cmp_Or_int_ [y1, y3]) fun (y5 : Int) =>
  some y5
def owner_All_L1 (a0 : List GOwner) (a1 : List GOwner) : Nat → (List GOwner) → Int → Option ((List GOwner))
  | 0, _, _ => none
  | n + 1, x18, x19 =>
    if (decide (x19 < (a0.length : Int))) = true then
      Option.bind (idx a0 x19) fun (y38 : GOwner) =>
      Option.bind (owner_Put y38 a1) fun (y44 : GOwner) =>
      Option.bind (idx x18 x19) fun (y46 : GOwner) =>
      owner_All_L1 a0 a1 n (x18.set (x19).toNat y44) (w_i64 (x19 + 1))
    else
      some x18
def owner_All (a0 : List GOwner) (a1 : List GOwner) : Option (List GOwner) :=
  Option.bind (mkOk (a0.length : Int) (a0.length : Int) 16) fun (u3 : Unit) =>
  Option.bind (owner_All_L1 a0 a1 ((((a0.length : Int)) - (0)).toNat + 1) (List.replicate ((a0.length : Int)).toNat ({ fKind := 0, fN := 0 } : GOwner)) 0) fun x50 =>
  some x50
def law04_OwnerTwice (a0 : A3 GOwner) (a1 : List GOwner) (a2 : List GOwner) : Option Bool :=
  Option.bind (if (decide ((a1.length : Int) > 20)) = true then
    some true
  else
    some (decide ((a2.length : Int) > 20)) : Option (Bool)) fun x2 =>
  if x2 = true then
    Option.bind law04_awake fun (y6 : Bool) =>
    some y6
  else
    Option.bind (owner_Order a0.a0 a0.a1) fun (y12 : Int) =>
    Option.bind (owner_Order a0.a1 a0.a2) fun (y14 : Int) =>
    Option.bind (Option.bind (owner_Order a0.a1 a0.a0) fun (y18 : Int) =>
    if (y12 != (w_i64 (0 - y18))) = true then
      some true
    else
      if (!((y12 == 0) == (bGOwner a0.a0 a0.a1))) = true then
        some true
      else
        if (decide (y12 < 0)) = true then
          if (decide (y14 < 0)) = true then
            Option.bind (owner_Order a0.a0 a0.a2) fun (y24 : Int) =>
            some (decide (y24 ≥ 0))
          else
            some false
        else
          some false : Option (Bool)) fun x26 =>
    if x26 = true then
      some false
    else
      Option.bind (owner_Put a0.a0 a1) fun (y30 : GOwner) =>
      Option.bind (owner_Put y30 a2) fun (y32 : GOwner) =>
      Option.bind (owner_All a1 a2) fun (y34 : (List GOwner)) =>
      Option.bind (owner_Put a0.a0 y34) fun (y36 : GOwner) =>
      if (bGOwner y32 y36) = true then
        Option.bind law04_awake fun (y39 : Bool) =>
        some y39
      else
        some false
def ref04_Put_L1 (a1 : List GOwner) (x6 : Int) : Nat → Int → Option (Ctl (GOwner) (Unit))
  | 0, _ => none
  | n + 1, x18 =>
    if (decide (x18 < (a1.length : Int))) = true then
      if (x18 == x6) = true then
        Option.bind (idx a1 x18) fun (y26 : GOwner) =>
        some (.stop y26)
      else
        ref04_Put_L1 a1 x6 n (w_i64 (x18 + 1))
    else
      some (.next ())
def ref04_Put (a0 : GOwner) (a1 : List GOwner) : Option GOwner :=
  Option.bind (if (a0.fKind == 2) = true then
    some 0
  else
    some (-1) : Option (Int)) fun x2 =>
  Option.bind (if (a0.fKind == 3) = true then
    some a0.fN
  else
    some x2 : Option (Int)) fun x6 =>
  Option.bind (if (a0.fKind != 2) = true then
    some (a0.fKind != 3)
  else
    some false : Option (Bool)) fun x10 =>
  if x10 = true then
    some a0
  else
    Option.bind (ref04_Put_L1 a1 x6 ((((a1.length : Int)) - (0)).toNat + 1) 0) fun lr29 =>
    Ctl.elim lr29 (fun v => some v) fun _ =>
    some ({ fKind := 8, fN := 0 } : GOwner)
def ref04_All_L1 (a0 : List GOwner) (a1 : List GOwner) : Nat → (List GOwner) → Int → Option ((List GOwner))
  | 0, _, _ => none
  | n + 1, x14, x15 =>
    if (decide (x15 < (a0.length : Int))) = true then
      Option.bind (idx a0 x15) fun (y38 : GOwner) =>
      Option.bind (ref04_Put y38 a1) fun (y40 : GOwner) =>
      Option.bind (room ((x14.length : Int) + ([y40].length : Int)) 16) fun (u42 : Unit) =>
      ref04_All_L1 a0 a1 n (x14 ++ [y40]) (w_i64 (x15 + 1))
    else
      some x14
def ref04_All (a0 : List GOwner) (a1 : List GOwner) : Option (List GOwner) :=
  Option.bind (ref04_All_L1 a0 a1 ((((a0.length : Int)) - (0)).toNat + 1) [] 0) fun x46 =>
  some x46
def law04_same_L1 (a0 : List GOwner) (a1 : List GOwner) : Nat → Int → Option (Ctl (Bool) (Unit))
  | 0, _ => none
  | n + 1, x12 =>
    if (decide (x12 < (a0.length : Int))) = true then
      Option.bind (idx a0 x12) fun (y29 : GOwner) =>
      Option.bind (idx a1 x12) fun (y31 : GOwner) =>
      if (!(bGOwner y29 y31)) = true then
        some (.stop false)
      else
        law04_same_L1 a0 a1 n (w_i64 (x12 + 1))
    else
      some (.next ())
def law04_same (a0 : List GOwner) (a1 : List GOwner) : Option Bool :=
  if ((a0.length : Int) != (a1.length : Int)) = true then
    some false
  else
    Option.bind (law04_same_L1 a0 a1 ((((a0.length : Int)) - (0)).toNat + 1) 0) fun lr35 =>
    Ctl.elim lr35 (fun v => some v) fun _ =>
    some true
def law04_OwnerPut (a0 : GOwner) (a1 : List GOwner) (a2 : List GOwner) : Option Bool :=
  Option.bind (if (decide ((a1.length : Int) > 20)) = true then
    some true
  else
    some (decide ((a2.length : Int) > 20)) : Option (Bool)) fun x2 =>
  if x2 = true then
    Option.bind law04_awake fun (y6 : Bool) =>
    some y6
  else
    Option.bind (owner_Put a0 a1) fun (y8 : GOwner) =>
    Option.bind (ref04_Put a0 a1) fun (y10 : GOwner) =>
    if (bGOwner y8 y10) = true then
      Option.bind (owner_All a1 a2) fun (y13 : (List GOwner)) =>
      Option.bind (ref04_All a1 a2) fun (y15 : (List GOwner)) =>
      Option.bind (law04_same y13 y15) fun (y17 : Bool) =>
      if y17 = true then
        Option.bind law04_awake fun (y20 : Bool) =>
        some y20
      else
        some false
    else
      some false
end Go.Proofs.Ytdffghiejjaomaa
