/- A part of the proof that the law KindTells gives true for every input. -/
import Derived.Test.YtkmaieldmcjbfaaDoorKindTellsA2
import Derived.Test.YtkmaieldmcjbfaaDoorKindTellsX
/- The types and the plain functions. -/
namespace Go.Proofs.YtkmaieldmcjbfaaDoor
open Go.RowKit Go.Abs
noncomputable section
structure GOwner where
  fKind : Int
  fN : Int
  deriving DecidableEq
abbrev zGOwner : GOwner := ({ fKind := 0, fN := 0 } : GOwner)
abbrev eGOwner (x : GOwner) : List PV := [.int .i64 x.fKind, .int .i64 x.fN]
structure GType where
  fKind : Int
  fClass : List UInt8
  fN : Int
  fOwn : A4 GOwner
  deriving DecidableEq
abbrev zGType : GType := ({ fKind := 0, fClass := [], fN := 0, fOwn := (⟨zGOwner, zGOwner, zGOwner, zGOwner⟩ : A4 GOwner) } : GType)
abbrev eGType (x : GType) : List PV := [.int .i64 x.fKind, .str x.fClass, .int .i64 x.fN, .int .i64 x.fOwn.a0.fKind, .int .i64 x.fOwn.a0.fN, .int .i64 x.fOwn.a1.fKind, .int .i64 x.fOwn.a1.fN, .int .i64 x.fOwn.a2.fKind, .int .i64 x.fOwn.a2.fN, .int .i64 x.fOwn.a3.fKind, .int .i64 x.fOwn.a3.fN]
def bGType (a b : GType) : Bool := (a.fKind == b.fKind && (a.fClass == b.fClass && (a.fN == b.fN && (a.fOwn.a0.fKind == b.fOwn.a0.fKind && (a.fOwn.a0.fN == b.fOwn.a0.fN && (a.fOwn.a1.fKind == b.fOwn.a1.fKind && (a.fOwn.a1.fN == b.fOwn.a1.fN && (a.fOwn.a2.fKind == b.fOwn.a2.fKind && (a.fOwn.a2.fN == b.fOwn.a2.fN && (a.fOwn.a3.fKind == b.fOwn.a3.fKind && (a.fOwn.a3.fN == b.fOwn.a3.fN && true)))))))))))
def bGOwner (a b : GOwner) : Bool := (a.fKind == b.fKind && (a.fN == b.fN && true))
def word_Letter (a0 : Int) : Option Bool :=
  if (decide ((orI .u8 a0 32) ≥ 97)) = true then
    some (decide ((orI .u8 a0 32) ≤ 122))
  else
    some false
def word_Digit (a0 : Int) : Option Bool :=
  some (decide ((w_u8 (a0 - 48)) < 10))
def glob_0 : List (List UInt8) := [[99, 108, 97, 115, 115], [101, 120, 116, 101, 110, 100, 115], [114, 101, 112], [112, 101, 101, 114], [119, 111, 114, 108, 100], [97, 110, 121], [117, 110, 105, 113, 117, 101], [112, 117, 114, 101], [118, 111, 105, 100], [105, 110, 116], [105, 102], [101, 108, 115, 101], [119, 104, 105, 108, 101], [114, 101, 116, 117, 114, 110], [110, 101, 119], [109, 111, 118, 101], [100, 101, 108, 101, 116, 101], [116, 104, 105, 115], [110, 117, 108, 108], [105, 110, 112, 117, 116], [110, 105, 108], [115, 97, 109, 101], [99, 97, 115, 116]]
def globrow_0 : List PV := [.str [99, 108, 97, 115, 115], .str [101, 120, 116, 101, 110, 100, 115], .str [114, 101, 112], .str [112, 101, 101, 114], .str [119, 111, 114, 108, 100], .str [97, 110, 121], .str [117, 110, 105, 113, 117, 101], .str [112, 117, 114, 101], .str [118, 111, 105, 100], .str [105, 110, 116], .str [105, 102], .str [101, 108, 115, 101], .str [119, 104, 105, 108, 101], .str [114, 101, 116, 117, 114, 110], .str [110, 101, 119], .str [109, 111, 118, 101], .str [100, 101, 108, 101, 116, 101], .str [116, 104, 105, 115], .str [110, 117, 108, 108], .str [105, 110, 112, 117, 116], .str [110, 105, 108], .str [115, 97, 109, 101], .str [99, 97, 115, 116]]
theorem globe_0 : globrow_0 = (List.map eS glob_0).flatten := by kernel_rfl
theorem globm_0 : (0, globrow_0) ∈ globs_Tryd := .head _
def word_is (a0 : List UInt8) : Option (List UInt8) :=
  some a0
def slices_IndexFunc_string_L1 (a0 : List (List UInt8)) (q1 : (List UInt8) → Option Bool) : Nat → Int → Option (Ctl (Int) (Unit))
  | 0, _ => none
  | n + 1, x11 =>
    if (decide (x11 < (a0.length : Int))) = true then
      Option.bind (idx a0 x11) fun (y28 : List UInt8) =>
      Option.bind (q1 y28) fun (y30 : Bool) =>
      if y30 = true then
        some (.stop x11)
      else
        slices_IndexFunc_string_L1 a0 q1 n (w_i64 (x11 + 1))
    else
      some (.next ())
def slices_IndexFunc_string (a0 : List (List UInt8)) (q1 : (List UInt8) → Option Bool) : Option Int :=
  Option.bind (slices_IndexFunc_string_L1 a0 q1 ((((a0.length : Int) : Int) - (0)).toNat + 1) 0) fun lr34 =>
  Ctl.elim lr34 (fun v => some v) fun _ =>
  some (-1)
def word_is_1 (a0 : List UInt8) (c0 : List UInt8) : Option Bool :=
  some (a0 == c0)
def word_Find (a0 : List UInt8) : Option Int :=
  Option.bind (word_is a0) fun (y1 : (List UInt8)) =>
  Option.bind (slices_IndexFunc_string glob_0 (fun (z3 : List UInt8) => word_is_1 z3 y1)) fun (y4 : Int) =>
  some (w_i64 (y4 + 1))
def word_Name_L1 (a0 : List UInt8) : Nat → Int → Option (Ctl (Bool) (Unit))
  | 0, _ => none
  | n + 1, x31 =>
    if (decide (x31 < ((bytesL a0).length : Int))) = true then
      Option.bind (idx (bytesL a0) x31) fun (y52 : Int) =>
      Option.bind (Option.bind (word_Letter y52) fun (y56 : Bool) =>
      if (!y56) = true then
        Option.bind (word_Digit y52) fun (y59 : Bool) =>
        some (!y59)
      else
        some false : Option (Bool)) fun x61 =>
      if x61 = true then
        some (.stop false)
      else
        word_Name_L1 a0 n (w_i64 (x31 + 1))
    else
      some (.next ())
def word_Name (a0 : List UInt8) : Option Bool :=
  Option.bind (if (a0 == []) = true then
    some true
  else
    if (decide ((a0.length : Int) > 20)) = true then
      some true
    else
      Option.bind (idx a0 0) fun (y3 : UInt8) =>
      Option.bind (word_Letter (y3.toNat : Int)) fun (y5 : Bool) =>
      some (!y5) : Option (Bool)) fun x7 =>
  if x7 = true then
    some false
  else
    Option.bind (room (a0.length : Int) 1) fun (u13 : Unit) =>
    Option.bind (word_Name_L1 a0 (((((bytesL a0).length : Int) : Int) - (0)).toNat + 1) 0) fun lr66 =>
    Ctl.elim lr66 (fun v => some v) fun _ =>
    Option.bind (word_Find a0) fun (y68 : Int) =>
    some (y68 == 0)
def kind_own (a0 : GType) : Option (List GOwner) :=
  Option.bind (cutL (a0.fOwn).l 0 (w_i64 ((if (if 3 < a0.fN then 3 else a0.fN) > 0 then (if 3 < a0.fN then 3 else a0.fN) else 0) + 1))) fun (y1 : List GOwner) =>
  some y1
def owner_Right (a0 : GOwner) (a1 : Int) : Option Bool :=
  Ctl.go (if (a0.fKind == 3) = true then
    if (decide (a0.fN > 0)) = true then
      .stop (some (decide (a0.fN ≤ a1)))
    else
      .stop (some false)
  else
    if (a0.fKind == 7) = true then
      .stop (some (decide (a0.fN ≥ 0)))
    else
      if (a0.fKind == 1) = true then
        .next ()
      else
        if (a0.fKind == 2) = true then
          .next ()
        else
          obind (if (a0.fKind == 4) = true then
            some (a0.fKind == 4)
          else
            if (a0.fKind == 5) = true then
              some (a0.fKind == 5)
            else
              some (a0.fKind == 6) : Option (Bool)) fun x8 =>
          if x8 = true then
            .next ()
          else
            .stop (some false) : Ctl (Option Bool) (Unit)) fun _ =>
  some (a0.fN == 0)
def kind_Right_L1 (a1 : Int) (y19 : (List GOwner)) : Nat → Int → Option (Ctl (Bool) (Unit))
  | 0, _ => none
  | n + 1, x31 =>
    if (decide (x31 < (y19.length : Int))) = true then
      Option.bind (idx y19 x31) fun (y46 : GOwner) =>
      Option.bind (owner_Right y46 a1) fun (y50 : Bool) =>
      if (!y50) = true then
        some (.stop false)
      else
        kind_Right_L1 a1 y19 n (w_i64 (x31 + 1))
    else
      some (.next ())
def kind_Right_L2 (y58 : List GOwner) : Nat → Int → Option (Ctl (Bool) (Unit))
  | 0, _ => none
  | n + 1, x66 =>
    if (decide (x66 < (y58.length : Int))) = true then
      Option.bind (idx y58 x66) fun (y77 : GOwner) =>
      if (y77.fKind == 6) = true then
        some (.stop false)
      else
        kind_Right_L2 y58 n (w_i64 (x66 + 1))
    else
      some (.next ())
def kind_Right_L3 (y85 : List GOwner) : Nat → Int → Option (Ctl (Bool) (Unit))
  | 0, _ => none
  | n + 1, x93 =>
    if (decide (x93 < (y85.length : Int))) = true then
      Option.bind (idx y85 x93) fun (y104 : GOwner) =>
      if (!(bGOwner y104 ({ fKind := 0, fN := 0 } : GOwner))) = true then
        some (.stop false)
      else
        kind_Right_L3 y85 n (w_i64 (x93 + 1))
    else
      some (.next ())
def kind_Right (a0 : GType) (a1 : Int) : Option Bool :=
  Option.bind (if (a0.fKind == 0) = true then
    some (a0.fKind == 0)
  else
    some (a0.fKind == 1) : Option (Bool)) fun x2 =>
  if x2 = true then
    some (bGType a0 ({ fKind := a0.fKind, fClass := [], fN := 0, fOwn := (⟨zGOwner, zGOwner, zGOwner, zGOwner⟩ : A4 GOwner) } : GType))
  else
    if (a0.fKind == 2) = true then
      Option.bind (Option.bind (word_Name a0.fClass) fun (y9 : Bool) =>
      if (!y9) = true then
        some true
      else
        if (decide (a0.fN < 0)) = true then
          some true
        else
          some (decide (a0.fN > 3)) : Option (Bool)) fun x13 =>
      if x13 = true then
        some false
      else
        Option.bind (kind_own a0) fun (y19 : (List GOwner)) =>
        Option.bind (kind_Right_L1 a1 y19 ((((y19.length : Int) : Int) - (0)).toNat + 1) 0) fun lr54 =>
        Ctl.elim lr54 (fun v => some v) fun _ =>
        Option.bind (cutL y19 1 y19.length) fun (y58 : List GOwner) =>
        Option.bind (kind_Right_L2 y58 ((((y58.length : Int) : Int) - (0)).toNat + 1) 0) fun lr81 =>
        Ctl.elim lr81 (fun v => some v) fun _ =>
        Option.bind (cutL (a0.fOwn).l (y19.length : Int) (a0.fOwn).l.length) fun (y85 : List GOwner) =>
        Option.bind (kind_Right_L3 y85 ((((y85.length : Int) : Int) - (0)).toNat + 1) 0) fun lr108 =>
        Ctl.elim lr108 (fun v => some v) fun _ =>
        some true
    else
      some false
def owner_Text (a0 : GOwner) (a1 : List (List UInt8)) : Option (List UInt8) :=
  Option.bind (owner_Right a0 (a1.length : Int)) fun (y3 : Bool) =>
  if (!y3) = true then
    some []
  else
    if (a0.fKind == 1) = true then
      some [114, 101, 112]
    else
      if (a0.fKind == 2) = true then
        some [112, 101, 101, 114]
      else
        if (a0.fKind == 4) = true then
          some [119, 111, 114, 108, 100]
        else
          if (a0.fKind == 5) = true then
            some [97, 110, 121]
          else
            if (a0.fKind == 6) = true then
              some [117, 110, 105, 113, 117, 101]
            else
              if (a0.fKind == 7) = true then
                some [63]
              else
                Option.bind (idx a1 (w_i64 (a0.fN - 1))) fun (y12 : List UInt8) =>
                some y12
def strings_Join (a0 : List (List UInt8)) (a1 : List UInt8) : Option (List UInt8) := joinF a0 a1
def kind_Text_L1 (a1 : List (List UInt8)) (y10 : (List GOwner)) : Nat → (List (List UInt8)) → Int → Option ((List (List UInt8)))
  | 0, _, _ => none
  | n + 1, x25, x26 =>
    if (decide (x26 < (y10.length : Int))) = true then
      Option.bind (idx y10 x26) fun (y45 : GOwner) =>
      Option.bind (owner_Text y45 a1) fun (y51 : (List UInt8)) =>
      Option.bind (room ((x25.length : Int) + ([y51].length : Int)) 16) fun (u53 : Unit) =>
      kind_Text_L1 a1 y10 n (x25 ++ [y51]) (w_i64 (x26 + 1))
    else
      some x25
def kind_Text (a0 : GType) (a1 : List (List UInt8)) : Option (List UInt8) :=
  Option.bind (kind_Right a0 (a1.length : Int)) fun (y3 : Bool) =>
  if (!y3) = true then
    some []
  else
    if (a0.fKind != 2) = true then
      if (a0.fKind == 1) = true then
        some [105, 110, 116]
      else
        some [118, 111, 105, 100]
    else
      Option.bind (kind_own a0) fun (y10 : (List GOwner)) =>
      Option.bind (kind_Text_L1 a1 y10 ((((y10.length : Int) : Int) - (0)).toNat + 1) [] 0) fun x57 =>
      Option.bind (if (decide ((x57.length : Int) > 1)) = true then
        Option.bind (cutL x57 1 x57.length) fun (y60 : List (List UInt8)) =>
        Option.bind (strings_Join y60 [44, 32]) fun (y62 : List UInt8) =>
        Option.bind (room (([60].length : Int) + (y62.length : Int)) 1) fun (u64 : Unit) =>
        Option.bind (room ((([60] ++ y62).length : Int) + ([62].length : Int)) 1) fun (u66 : Unit) =>
        Option.bind (room ((a0.fClass.length : Int) + ((([60] ++ y62) ++ [62]).length : Int)) 1) fun (u68 : Unit) =>
        some (a0.fClass ++ (([60] ++ y62) ++ [62]))
      else
        some a0.fClass : Option ((List UInt8))) fun x70 =>
      if (a0.fOwn.a0.fKind == 7) = true then
        some x70
      else
        Option.bind (idx x57 0) fun (y74 : List UInt8) =>
        Option.bind (room ((y74.length : Int) + ([32].length : Int)) 1) fun (u76 : Unit) =>
        Option.bind (room (((y74 ++ [32]).length : Int) + (x70.length : Int)) 1) fun (u78 : Unit) =>
        some ((y74 ++ [32]) ++ x70)
def law05_awake  : Option Bool :=
  Option.bind (kind_Text ({ fKind := 2, fClass := [76, 105, 115, 116], fN := 1, fOwn := (⟨({ fKind := 1, fN := 0 } : GOwner), ({ fKind := 3, fN := 1 } : GOwner), zGOwner, zGOwner⟩ : A4 GOwner) } : GType) [[100, 97, 116, 97]]) fun (y1 : (List UInt8)) =>
  if (y1 == [114, 101, 112, 32, 76, 105, 115, 116, 60, 100, 97, 116, 97, 62]) = true then
    Option.bind (kind_Right ({ fKind := 2, fClass := [76, 105, 115, 116], fN := 1, fOwn := (⟨({ fKind := 1, fN := 0 } : GOwner), ({ fKind := 3, fN := 1 } : GOwner), zGOwner, zGOwner⟩ : A4 GOwner) } : GType) 1) fun (y4 : Bool) =>
    if y4 = true then
      Option.bind (kind_Right ({ fKind := 2, fClass := [76, 105, 115, 116], fN := 1, fOwn := (⟨({ fKind := 1, fN := 0 } : GOwner), ({ fKind := 3, fN := 1 } : GOwner), zGOwner, zGOwner⟩ : A4 GOwner) } : GType) 0) fun (y7 : Bool) =>
      some (!y7)
    else
      some false
  else
    some false
def ref02_Letter (a0 : Int) : Option Bool :=
  if (decide (a0 ≥ 97)) = true then
    if (decide (a0 ≤ 122)) = true then
      some true
    else
      if (decide (a0 ≥ 65)) = true then
        some (decide (a0 ≤ 90))
      else
        some false
  else
    if (decide (a0 ≥ 65)) = true then
      some (decide (a0 ≤ 90))
    else
      some false
def ref02_Words  : Option (List (List UInt8)) :=
  some [[99, 108, 97, 115, 115], [101, 120, 116, 101, 110, 100, 115], [114, 101, 112], [112, 101, 101, 114], [119, 111, 114, 108, 100], [97, 110, 121], [117, 110, 105, 113, 117, 101], [112, 117, 114, 101], [118, 111, 105, 100], [105, 110, 116], [105, 102], [101, 108, 115, 101], [119, 104, 105, 108, 101], [114, 101, 116, 117, 114, 110], [110, 101, 119], [109, 111, 118, 101], [100, 101, 108, 101, 116, 101], [116, 104, 105, 115], [110, 117, 108, 108], [105, 110, 112, 117, 116], [110, 105, 108], [115, 97, 109, 101], [99, 97, 115, 116]]
def ref02_Find_L1 (a0 : List UInt8) (y3 : (List (List UInt8))) : Nat → Int → Option (Ctl (Int) (Unit))
  | 0, _ => none
  | n + 1, x11 =>
    if (decide (x11 < (y3.length : Int))) = true then
      Option.bind (idx y3 x11) fun (y22 : List UInt8) =>
      if (y22 == a0) = true then
        some (.stop (w_i64 (x11 + 1)))
      else
        ref02_Find_L1 a0 y3 n (w_i64 (x11 + 1))
    else
      some (.next ())
def ref02_Find (a0 : List UInt8) : Option Int :=
  Option.bind ref02_Words fun (y3 : (List (List UInt8))) =>
  Option.bind (ref02_Find_L1 a0 y3 ((((y3.length : Int) : Int) - (0)).toNat + 1) 0) fun lr26 =>
  Ctl.elim lr26 (fun v => some v) fun _ =>
  some 0
def ref02_Digit (a0 : Int) : Option Bool :=
  if (decide (a0 ≥ 48)) = true then
    some (decide (a0 ≤ 57))
  else
    some false
def ref02_Name_L1 (a0 : List UInt8) : Nat → Int → Option (Ctl (Bool) (Unit))
  | 0, _ => none
  | n + 1, x32 =>
    if (decide (x32 < (a0.length : Int))) = true then
      Option.bind (Option.bind (idx a0 x32) fun (y57 : UInt8) =>
      Option.bind (ref02_Letter (y57.toNat : Int)) fun (y59 : Bool) =>
      if (!y59) = true then
        Option.bind (idx a0 x32) fun (y62 : UInt8) =>
        Option.bind (ref02_Digit (y62.toNat : Int)) fun (y64 : Bool) =>
        some (!y64)
      else
        some false : Option (Bool)) fun x66 =>
      if x66 = true then
        some (.stop false)
      else
        ref02_Name_L1 a0 n (w_i64 (x32 + 1))
    else
      some (.next ())
def ref02_Name (a0 : List UInt8) : Option Bool :=
  Option.bind (if (decide ((a0.length : Int) < 1)) = true then
    some true
  else
    if (decide ((a0.length : Int) > 20)) = true then
      some true
    else
      Option.bind (idx a0 0) fun (y3 : UInt8) =>
      Option.bind (ref02_Letter (y3.toNat : Int)) fun (y5 : Bool) =>
      if (!y5) = true then
        some true
      else
        Option.bind (ref02_Find a0) fun (y8 : Int) =>
        some (decide (y8 > 0)) : Option (Bool)) fun x10 =>
  if x10 = true then
    some false
  else
    Option.bind (ref02_Name_L1 a0 ((((a0.length : Int) : Int) - (0)).toNat + 1) 0) fun lr71 =>
    Ctl.elim lr71 (fun v => some v) fun _ =>
    some true
def ref04_Right (a0 : GOwner) (a1 : Int) : Option Bool :=
  if (a0.fKind == 3) = true then
    if (decide (a0.fN ≥ 1)) = true then
      some (decide (a0.fN ≤ a1))
    else
      some false
  else
    if (a0.fKind == 7) = true then
      some (decide (a0.fN ≥ 0))
    else
      if (a0.fN == 0) = true then
        if (a0.fKind == 1) = true then
          some true
        else
          if (a0.fKind == 2) = true then
            some true
          else
            if (a0.fKind == 4) = true then
              some true
            else
              if (a0.fKind == 5) = true then
                some true
              else
                some (a0.fKind == 6)
      else
        some false
def ref05_Right_L1 (a0 : GType) (a1 : Int) : Nat → Int → Option (Ctl (Bool) (Unit))
  | 0, _ => none
  | n + 1, x32 =>
    if (decide (x32 < 4)) = true then
      Option.bind (idx (a0.fOwn).l x32) fun (y58 : GOwner) =>
      Option.bind (if (decide (x32 > a0.fN)) = true then
        if (!(bGOwner y58 ({ fKind := 0, fN := 0 } : GOwner))) = true then
          some true
        else
          if (decide (x32 ≤ a0.fN)) = true then
            Option.bind (ref04_Right y58 a1) fun (y63 : Bool) =>
            if (!y63) = true then
              some true
            else
              if (decide (x32 > 0)) = true then
                some (y58.fKind == 6)
              else
                some false
          else
            some false
      else
        if (decide (x32 ≤ a0.fN)) = true then
          Option.bind (ref04_Right y58 a1) fun (y68 : Bool) =>
          if (!y68) = true then
            some true
          else
            if (decide (x32 > 0)) = true then
              some (y58.fKind == 6)
            else
              some false
        else
          some false : Option (Bool)) fun x72 =>
      if x72 = true then
        some (.stop false)
      else
        ref05_Right_L1 a0 a1 n (w_i64 (x32 + 1))
    else
      some (.next ())
def ref05_Right (a0 : GType) (a1 : Int) : Option Bool :=
  Option.bind (if (a0.fKind == 0) = true then
    some true
  else
    some (a0.fKind == 1) : Option (Bool)) fun x2 =>
  if x2 = true then
    some (bGType a0 ({ fKind := a0.fKind, fClass := [], fN := 0, fOwn := (⟨zGOwner, zGOwner, zGOwner, zGOwner⟩ : A4 GOwner) } : GType))
  else
    Option.bind (if (a0.fKind != 2) = true then
      some true
    else
      Option.bind (ref02_Name a0.fClass) fun (y7 : Bool) =>
      if (!y7) = true then
        some true
      else
        if (decide (a0.fN < 0)) = true then
          some true
        else
          some (decide (a0.fN > 3)) : Option (Bool)) fun x11 =>
    if x11 = true then
      some false
    else
      Option.bind (ref05_Right_L1 a0 a1 (((4 : Int) - (0)).toNat + 1) 0) fun lr77 =>
      Ctl.elim lr77 (fun v => some v) fun _ =>
      some true
def ref04_Text (a0 : GOwner) (a1 : List (List UInt8)) : Option (List UInt8) :=
  Option.bind (ref04_Right a0 (a1.length : Int)) fun (y3 : Bool) =>
  if (!y3) = true then
    some []
  else
    if (a0.fKind == 3) = true then
      Option.bind (idx a1 (w_i64 (a0.fN - 1))) fun (y7 : List UInt8) =>
      some y7
    else
      Option.bind (idx [[], [114, 101, 112], [112, 101, 101, 114], [], [119, 111, 114, 108, 100], [97, 110, 121], [117, 110, 105, 113, 117, 101], [63]] a0.fKind) fun (y9 : List UInt8) =>
      some y9
def ref05_Text_L1 (a0 : GType) (a1 : List (List UInt8)) : Nat → (List UInt8) → Int → Option ((List UInt8))
  | 0, _, _ => none
  | n + 1, x35, x36 =>
    if (decide (x36 ≤ a0.fN)) = true then
      Option.bind (if (x36 == 1) = true then
        Option.bind (room ((x35.length : Int) + ([60].length : Int)) 1) fun (u62 : Unit) =>
        some (x35 ++ [60])
      else
        Option.bind (room ((x35.length : Int) + ([44, 32].length : Int)) 1) fun (u64 : Unit) =>
        some (x35 ++ [44, 32]) : Option ((List UInt8))) fun x66 =>
      Option.bind (idx (a0.fOwn).l x36) fun (y75 : GOwner) =>
      Option.bind (ref04_Text y75 a1) fun (y77 : (List UInt8)) =>
      Option.bind (room ((x66.length : Int) + (y77.length : Int)) 1) fun (u79 : Unit) =>
      ref05_Text_L1 a0 a1 n (x66 ++ y77) (w_i64 (x36 + 1))
    else
      some x35
def ref05_Text (a0 : GType) (a1 : List (List UInt8)) : Option (List UInt8) :=
  Option.bind (ref05_Right a0 (a1.length : Int)) fun (y3 : Bool) =>
  if (!y3) = true then
    some []
  else
    if (a0.fKind == 0) = true then
      some [118, 111, 105, 100]
    else
      if (a0.fKind == 1) = true then
        some [105, 110, 116]
      else
        Option.bind (if (a0.fOwn.a0.fKind != 7) = true then
          Option.bind (ref04_Text a0.fOwn.a0 a1) fun (y9 : (List UInt8)) =>
          Option.bind (room ((y9.length : Int) + ([32].length : Int)) 1) fun (u11 : Unit) =>
          Option.bind (room (((y9 ++ [32]).length : Int) + (a0.fClass.length : Int)) 1) fun (u13 : Unit) =>
          some ((y9 ++ [32]) ++ a0.fClass)
        else
          some a0.fClass : Option ((List UInt8))) fun x15 =>
        Option.bind (ref05_Text_L1 a0 a1 6 x15 1) fun x83 =>
        if (decide (a0.fN > 0)) = true then
          Option.bind (room ((x83.length : Int) + ([62].length : Int)) 1) fun (u86 : Unit) =>
          some (x83 ++ [62])
        else
          some x83
def law05_KindTells (a0 : GType) (a1 : Int) (a2 : List (List UInt8)) : Option Bool :=
  Option.bind (if (decide ((a2.length : Int) > 20)) = true then
    some true
  else
    some (decide ((a0.fClass.length : Int) > 60)) : Option (Bool)) fun x2 =>
  if x2 = true then
    Option.bind law05_awake fun (y6 : Bool) =>
    some y6
  else
    Option.bind (kind_Right a0 a1) fun (y8 : Bool) =>
    Option.bind (ref05_Right a0 a1) fun (y10 : Bool) =>
    if (y8 == y10) = true then
      Option.bind (kind_Text a0 a2) fun (y13 : (List UInt8)) =>
      Option.bind (ref05_Text a0 a2) fun (y15 : (List UInt8)) =>
      if (y13 == y15) = true then
        Option.bind law05_awake fun (y18 : Bool) =>
        some y18
      else
        some false
    else
      some false
end
end Go.Proofs.YtkmaieldmcjbfaaDoor
