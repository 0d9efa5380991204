/- A part of the proof that the law WordBack gives true for every input. -/
import Derived.Test.YtiblofbgibjobaaDoorWordBackA2
import Derived.Test.YtiblofbgibjobaaDoorWordBackX
/- The types and the plain functions. -/
namespace Go.Proofs.YtiblofbgibjobaaDoor
open Go.RowKit Go.Abs
noncomputable section

def word_Digit (a0 : Int) : Option Bool :=
  some (decide ((w_u8 (a0 - 48)) < 10))
def slices_Reverse_byte_w_L1  : Nat → (List Int) → Int → Int → Option ((List Int))
  | 0, _, _, _ => none
  | n + 1, x18, x19, x20 =>
    if (decide (x19 < x20)) = true then
      Option.bind (idx x18 x20) fun (y50 : Int) =>
      Option.bind (idx x18 x19) fun (y52 : Int) =>
      Option.bind (idx x18 x19) fun (y54 : Int) =>
      Option.bind (idx (x18.set (x19 : Int).toNat y50) x20) fun (y56 : Int) =>
      slices_Reverse_byte_w_L1 n ((x18.set (x19 : Int).toNat y50).set (x20 : Int).toNat y52) (w_i64 (x19 + 1)) (w_i64 (x20 - 1))
    else
      some x18
def slices_Reverse_byte_w (b0 : List Int) : Option (List Int) :=
  Option.bind (slices_Reverse_byte_w_L1 (b0.length + 1) b0 0 (w_i64 ((b0.length : Int) - 1))) fun x61 =>
  some x61
def word_Digits_L1  : Nat → Int → (List Int) → Option ((List Int))
  | 0, _, _ => none
  | n + 1, x12, x13 =>
    if (decide (x12 ≥ 10)) = true then
      Option.bind (room ((x13.length : Int) + ([w_u8 (w_u64 (48 + (Int.tmod (w_u64 (Int.tdiv x12 10)) 10)))].length : Int)) 1) fun (u20 : Unit) =>
      word_Digits_L1 n (w_u64 (Int.tdiv x12 10)) (x13 ++ [w_u8 (w_u64 (48 + (Int.tmod (w_u64 (Int.tdiv x12 10)) 10)))])
    else
      some x13
def word_Digits (a0 : Int) : Option (List UInt8) :=
  Option.bind (if (decide (a0 < 0)) = true then
    some (w_u64 (0 - (w_u64 a0)))
  else
    some (w_u64 a0) : Option (Int)) fun x2 =>
  Option.bind (room ((([] : List Int).length : Int) + ([w_u8 (w_u64 (48 + (Int.tmod x2 10)))].length : Int)) 1) fun (u7 : Unit) =>
  Option.bind (word_Digits_L1 21 x2 ([] ++ [w_u8 (w_u64 (48 + (Int.tmod x2 10)))])) fun x24 =>
  Option.bind (if (decide (a0 < 0)) = true then
    Option.bind (room ((x24.length : Int) + ([45].length : Int)) 1) fun (u27 : Unit) =>
    some (x24 ++ [45])
  else
    some x24 : Option ((List Int))) fun x29 =>
  Option.bind (slices_Reverse_byte_w x29) fun (y32 : (List Int)) =>
  some (strL y32)
def word_Number_L1 (a0 : List UInt8) (u8 : Unit) : Nat → Int → Int → Option (Ctl (Int × Bool) (Int))
  | 0, _, _ => none
  | n + 1, x20, x21 =>
    if (decide (x21 < ((bytesL a0).length : Int))) = true then
      Option.bind (idx (bytesL a0) x21) fun (y37 : Int) =>
      Option.bind (word_Digit y37) fun (y41 : Bool) =>
      if (!y41) = true then
        some (.stop (0, false))
      else
        word_Number_L1 a0 u8 n (w_i64 ((w_i64 (10 * x20)) + (w_i64 (andI .u8 y37 15)))) (w_i64 (x21 + 1))
    else
      some (.next x20)
def word_Number (a0 : List UInt8) : Option (Int × Bool) :=
  Option.bind (if (a0 == []) = true then
    some true
  else
    some (decide ((a0.length : Int) > 9)) : Option (Bool)) fun x2 =>
  if x2 = true then
    some (0, false)
  else
    Option.bind (room (a0.length : Int) 1) fun (u8 : Unit) =>
    Option.bind (word_Number_L1 a0 u8 (((((bytesL a0).length : Int) : Int) - (0)).toNat + 1) 0 0) fun lr47 =>
    Ctl.elim lr47 (fun v => some v) fun x46 =>
    Option.bind (word_Digits x46) fun (y51 : (List UInt8)) =>
    if (!(y51 == a0)) = true then
      some (0, false)
    else
      some (x46, true)
def glob_0 : List (List UInt8) := [[99, 108, 97, 115, 115], [101, 120, 116, 101, 110, 100, 115], [114, 101, 112], [112, 101, 101, 114], [119, 111, 114, 108, 100], [97, 110, 121], [117, 110, 105, 113, 117, 101], [112, 117, 114, 101], [118, 111, 105, 100], [105, 110, 116], [105, 102], [101, 108, 115, 101], [119, 104, 105, 108, 101], [114, 101, 116, 117, 114, 110], [110, 101, 119], [109, 111, 118, 101], [100, 101, 108, 101, 116, 101], [116, 104, 105, 115], [110, 117, 108, 108], [105, 110, 112, 117, 116], [110, 105, 108], [115, 97, 109, 101], [99, 97, 115, 116]]
def globrow_0 : List PV := [.str [99, 108, 97, 115, 115], .str [101, 120, 116, 101, 110, 100, 115], .str [114, 101, 112], .str [112, 101, 101, 114], .str [119, 111, 114, 108, 100], .str [97, 110, 121], .str [117, 110, 105, 113, 117, 101], .str [112, 117, 114, 101], .str [118, 111, 105, 100], .str [105, 110, 116], .str [105, 102], .str [101, 108, 115, 101], .str [119, 104, 105, 108, 101], .str [114, 101, 116, 117, 114, 110], .str [110, 101, 119], .str [109, 111, 118, 101], .str [100, 101, 108, 101, 116, 101], .str [116, 104, 105, 115], .str [110, 117, 108, 108], .str [105, 110, 112, 117, 116], .str [110, 105, 108], .str [115, 97, 109, 101], .str [99, 97, 115, 116]]
theorem globe_0 : globrow_0 = (List.map eS glob_0).flatten := by kernel_rfl
theorem globm_0 : (0, globrow_0) ∈ globs_Tryd := .head _
def word_is (a0 : List UInt8) : Option (List UInt8) :=
  some a0
def slices_IndexFunc_string_L1 (a0 : List (List UInt8)) (q1 : (List UInt8) → Option Bool) : Nat → Int → Option (Ctl (Int) (Unit))
  | 0, _ => none
  | n + 1, x11 =>
    if (decide (x11 < (a0.length : Int))) = true then
      Option.bind (idx a0 x11) fun (y28 : List UInt8) =>
      Option.bind (q1 y28) fun (y30 : Bool) =>
      if y30 = true then
        some (.stop x11)
      else
        slices_IndexFunc_string_L1 a0 q1 n (w_i64 (x11 + 1))
    else
      some (.next ())
def slices_IndexFunc_string (a0 : List (List UInt8)) (q1 : (List UInt8) → Option Bool) : Option Int :=
  Option.bind (slices_IndexFunc_string_L1 a0 q1 ((((a0.length : Int) : Int) - (0)).toNat + 1) 0) fun lr34 =>
  Ctl.elim lr34 (fun v => some v) fun _ =>
  some (-1)
def word_is_1 (a0 : List UInt8) (c0 : List UInt8) : Option Bool :=
  some (a0 == c0)
def word_Find (a0 : List UInt8) : Option Int :=
  Option.bind (word_is a0) fun (y1 : (List UInt8)) =>
  Option.bind (slices_IndexFunc_string glob_0 (fun (z3 : List UInt8) => word_is_1 z3 y1)) fun (y4 : Int) =>
  some (w_i64 (y4 + 1))
def word_Letter (a0 : Int) : Option Bool :=
  if (decide ((orI .u8 a0 32) ≥ 97)) = true then
    some (decide ((orI .u8 a0 32) ≤ 122))
  else
    some false
def word_Name_L1 (a0 : List UInt8) : Nat → Int → Option (Ctl (Bool) (Unit))
  | 0, _ => none
  | n + 1, x31 =>
    if (decide (x31 < ((bytesL a0).length : Int))) = true then
      Option.bind (idx (bytesL a0) x31) fun (y52 : Int) =>
      Option.bind (Option.bind (word_Letter y52) fun (y56 : Bool) =>
      if (!y56) = true then
        Option.bind (word_Digit y52) fun (y59 : Bool) =>
        some (!y59)
      else
        some false : Option (Bool)) fun x61 =>
      if x61 = true then
        some (.stop false)
      else
        word_Name_L1 a0 n (w_i64 (x31 + 1))
    else
      some (.next ())
def word_Name (a0 : List UInt8) : Option Bool :=
  Option.bind (if (a0 == []) = true then
    some true
  else
    if (decide ((a0.length : Int) > 20)) = true then
      some true
    else
      Option.bind (idx a0 0) fun (y3 : UInt8) =>
      Option.bind (word_Letter (y3.toNat : Int)) fun (y5 : Bool) =>
      some (!y5) : Option (Bool)) fun x7 =>
  if x7 = true then
    some false
  else
    Option.bind (room (a0.length : Int) 1) fun (u13 : Unit) =>
    Option.bind (word_Name_L1 a0 (((((bytesL a0).length : Int) : Int) - (0)).toNat + 1) 0) fun lr66 =>
    Ctl.elim lr66 (fun v => some v) fun _ =>
    Option.bind (word_Find a0) fun (y68 : Int) =>
    some (y68 == 0)
def law02_awake  : Option Bool :=
  Option.bind (word_Number [48, 48, 55]) fun (y3 : Int × Bool) =>
  Option.bind (word_Find [116, 104, 105, 115]) fun (y5 : Int) =>
  if (y5 == 18) = true then
    Option.bind (word_Name [116, 104, 105, 115]) fun (y8 : Bool) =>
    if (!y8) = true then
      Option.bind (word_Name [116, 104, 97, 116]) fun (y11 : Bool) =>
      if y11 = true then
        some (!y3.2)
      else
        some false
    else
      some false
  else
    some false
def word_Word (a0 : Int) : Option (List UInt8) :=
  Option.bind (if (decide (a0 < 1)) = true then
    some true
  else
    some (decide (a0 > 23)) : Option (Bool)) fun x2 =>
  if x2 = true then
    some []
  else
    Option.bind (idx glob_0 (w_i64 (a0 - 1))) fun (y6 : List UInt8) =>
    some y6
def law02_WordBack (a0 : Int) (a1 : List UInt8) (a2 : Int) : Option Bool :=
  if (decide ((a1.length : Int) > 100)) = true then
    Option.bind law02_awake fun (y2 : Bool) =>
    some y2
  else
    Option.bind (word_Digits (w_i64 (Int.tmod a0 1000000000))) fun (y8 : (List UInt8)) =>
    Option.bind (word_Number y8) fun (y10 : Int × Bool) =>
    Option.bind (word_Number a1) fun (y14 : Int × Bool) =>
    Option.bind (word_Word (w_i64 ((w_i64 a2) + 1))) fun (y18 : (List UInt8)) =>
    Option.bind (if y14.2 = true then
      Option.bind (word_Digits y14.1) fun (y21 : (List UInt8)) =>
      if (!(y21 == a1)) = true then
        some true
      else
        if (decide (y14.1 < 0)) = true then
          some true
        else
          if (decide (y14.1 > 999999999)) = true then
            some true
          else
            if (!y14.2) = true then
              some (y14.1 != 0)
            else
              some false
    else
      if (!y14.2) = true then
        some (y14.1 != 0)
      else
        some false : Option (Bool)) fun x28 =>
    if x28 = true then
      some false
    else
      if y10.2 = true then
        if (y10.1 == (w_i64 (Int.tmod a0 1000000000))) = true then
          if (y18 == []) = true then
            Option.bind (word_Find a1) fun (y35 : Int) =>
            if (y35 == 0) = true then
              Option.bind law02_awake fun (y38 : Bool) =>
              some y38
            else
              Option.bind (word_Find a1) fun (y40 : Int) =>
              Option.bind (word_Word y40) fun (y42 : (List UInt8)) =>
              if (y42 == a1) = true then
                Option.bind law02_awake fun (y45 : Bool) =>
                some y45
              else
                some false
          else
            Option.bind (word_Find y18) fun (y47 : Int) =>
            if (y47 == (w_i64 ((w_i64 a2) + 1))) = true then
              Option.bind (word_Name y18) fun (y50 : Bool) =>
              if (!y50) = true then
                Option.bind (word_Find a1) fun (y53 : Int) =>
                if (y53 == 0) = true then
                  Option.bind law02_awake fun (y56 : Bool) =>
                  some y56
                else
                  Option.bind (word_Find a1) fun (y58 : Int) =>
                  Option.bind (word_Word y58) fun (y60 : (List UInt8)) =>
                  if (y60 == a1) = true then
                    Option.bind law02_awake fun (y63 : Bool) =>
                    some y63
                  else
                    some false
              else
                some false
            else
              some false
        else
          some false
      else
        some false
def ref02_Letter (a0 : Int) : Option Bool :=
  if (decide (a0 ≥ 97)) = true then
    if (decide (a0 ≤ 122)) = true then
      some true
    else
      if (decide (a0 ≥ 65)) = true then
        some (decide (a0 ≤ 90))
      else
        some false
  else
    if (decide (a0 ≥ 65)) = true then
      some (decide (a0 ≤ 90))
    else
      some false
def ref02_Digit (a0 : Int) : Option Bool :=
  if (decide (a0 ≥ 48)) = true then
    some (decide (a0 ≤ 57))
  else
    some false
def word_Blank (a0 : Int) : Option Bool :=
  Option.bind (if (a0 == 9) = true then
    some (a0 == 9)
  else
    if (a0 == 10) = true then
      some (a0 == 10)
    else
      if (a0 == 13) = true then
        some (a0 == 13)
      else
        some (a0 == 32) : Option (Bool)) fun x4 =>
  if x4 = true then
    some true
  else
    some false
def ref02_Blank (a0 : Int) : Option Bool :=
  if (a0 == 9) = true then
    some true
  else
    if (a0 == 10) = true then
      some true
    else
      if (a0 == 13) = true then
        some true
      else
        some (a0 == 32)
def ref02_Words  : Option (List (List UInt8)) :=
  some [[99, 108, 97, 115, 115], [101, 120, 116, 101, 110, 100, 115], [114, 101, 112], [112, 101, 101, 114], [119, 111, 114, 108, 100], [97, 110, 121], [117, 110, 105, 113, 117, 101], [112, 117, 114, 101], [118, 111, 105, 100], [105, 110, 116], [105, 102], [101, 108, 115, 101], [119, 104, 105, 108, 101], [114, 101, 116, 117, 114, 110], [110, 101, 119], [109, 111, 118, 101], [100, 101, 108, 101, 116, 101], [116, 104, 105, 115], [110, 117, 108, 108], [105, 110, 112, 117, 116], [110, 105, 108], [115, 97, 109, 101], [99, 97, 115, 116]]
def ref02_Find_L1 (a0 : List UInt8) (y3 : (List (List UInt8))) : Nat → Int → Option (Ctl (Int) (Unit))
  | 0, _ => none
  | n + 1, x11 =>
    if (decide (x11 < (y3.length : Int))) = true then
      Option.bind (idx y3 x11) fun (y22 : List UInt8) =>
      if (y22 == a0) = true then
        some (.stop (w_i64 (x11 + 1)))
      else
        ref02_Find_L1 a0 y3 n (w_i64 (x11 + 1))
    else
      some (.next ())
def ref02_Find (a0 : List UInt8) : Option Int :=
  Option.bind ref02_Words fun (y3 : (List (List UInt8))) =>
  Option.bind (ref02_Find_L1 a0 y3 ((((y3.length : Int) : Int) - (0)).toNat + 1) 0) fun lr26 =>
  Ctl.elim lr26 (fun v => some v) fun _ =>
  some 0
def ref02_Name_L1 (a0 : List UInt8) : Nat → Int → Option (Ctl (Bool) (Unit))
  | 0, _ => none
  | n + 1, x32 =>
    if (decide (x32 < (a0.length : Int))) = true then
      Option.bind (Option.bind (idx a0 x32) fun (y57 : UInt8) =>
      Option.bind (ref02_Letter (y57.toNat : Int)) fun (y59 : Bool) =>
      if (!y59) = true then
        Option.bind (idx a0 x32) fun (y62 : UInt8) =>
        Option.bind (ref02_Digit (y62.toNat : Int)) fun (y64 : Bool) =>
        some (!y64)
      else
        some false : Option (Bool)) fun x66 =>
      if x66 = true then
        some (.stop false)
      else
        ref02_Name_L1 a0 n (w_i64 (x32 + 1))
    else
      some (.next ())
def ref02_Name (a0 : List UInt8) : Option Bool :=
  Option.bind (if (decide ((a0.length : Int) < 1)) = true then
    some true
  else
    if (decide ((a0.length : Int) > 20)) = true then
      some true
    else
      Option.bind (idx a0 0) fun (y3 : UInt8) =>
      Option.bind (ref02_Letter (y3.toNat : Int)) fun (y5 : Bool) =>
      if (!y5) = true then
        some true
      else
        Option.bind (ref02_Find a0) fun (y8 : Int) =>
        some (decide (y8 > 0)) : Option (Bool)) fun x10 =>
  if x10 = true then
    some false
  else
    Option.bind (ref02_Name_L1 a0 ((((a0.length : Int) : Int) - (0)).toNat + 1) 0) fun lr71 =>
    Ctl.elim lr71 (fun v => some v) fun _ =>
    some true
def ref02_Word_L1 (a0 : Int) (y3 : (List (List UInt8))) : Nat → Int → Option (Ctl ((List UInt8)) (Unit))
  | 0, _ => none
  | n + 1, x9 =>
    if (decide (x9 < (y3.length : Int))) = true then
      if ((w_i64 (x9 + 1)) == a0) = true then
        Option.bind (idx y3 x9) fun (y17 : List UInt8) =>
        some (.stop y17)
      else
        ref02_Word_L1 a0 y3 n (w_i64 (x9 + 1))
    else
      some (.next ())
def ref02_Word (a0 : Int) : Option (List UInt8) :=
  Option.bind ref02_Words fun (y3 : (List (List UInt8))) =>
  Option.bind (ref02_Word_L1 a0 y3 ((((y3.length : Int) : Int) - (0)).toNat + 1) 0) fun lr20 =>
  Ctl.elim lr20 (fun v => some v) fun _ =>
  some []
def law02_WordTells (a0 : Int) (a1 : List UInt8) (a2 : Int) : Option Bool :=
  if (decide ((a1.length : Int) > 100)) = true then
    Option.bind law02_awake fun (y2 : Bool) =>
    some y2
  else
    Option.bind (word_Letter a0) fun (y4 : Bool) =>
    Option.bind (ref02_Letter a0) fun (y6 : Bool) =>
    if (y4 == y6) = true then
      Option.bind (word_Digit a0) fun (y9 : Bool) =>
      Option.bind (ref02_Digit a0) fun (y11 : Bool) =>
      if (y9 == y11) = true then
        Option.bind (word_Blank a0) fun (y14 : Bool) =>
        Option.bind (ref02_Blank a0) fun (y16 : Bool) =>
        if (y14 == y16) = true then
          Option.bind (word_Name a1) fun (y19 : Bool) =>
          Option.bind (ref02_Name a1) fun (y21 : Bool) =>
          if (y19 == y21) = true then
            Option.bind (word_Find a1) fun (y24 : Int) =>
            Option.bind (ref02_Find a1) fun (y26 : Int) =>
            if (y24 == y26) = true then
              Option.bind (word_Word a2) fun (y29 : (List UInt8)) =>
              Option.bind (ref02_Word a2) fun (y31 : (List UInt8)) =>
              if (y29 == y31) = true then
                Option.bind law02_awake fun (y34 : Bool) =>
                some y34
              else
                some false
            else
              some false
          else
            some false
        else
          some false
      else
        some false
    else
      some false
end
end Go.Proofs.YtiblofbgibjobaaDoor
