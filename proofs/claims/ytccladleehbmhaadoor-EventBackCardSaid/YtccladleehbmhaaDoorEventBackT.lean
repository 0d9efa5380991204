/- A part of the proof that the law EventBack gives true for every input. -/
import Derived.Test.YtccladleehbmhaaDoorEventBackA3
import Derived.Test.YtccladleehbmhaaDoorEventBackX
/- The types and the plain functions. -/
namespace Go.Proofs.YtccladleehbmhaaDoor
open Go.RowKit Go.Abs
noncomputable section
structure GVal where
  fRef : Bool
  fN : Int
  deriving DecidableEq
abbrev zGVal : GVal := ({ fRef := false, fN := 0 } : GVal)
abbrev eGVal (x : GVal) : List PV := [.bool x.fRef, .int .i64 x.fN]
structure GEvent where
  fKind : Int
  fWho : Int
  fObj : Int
  fName : List UInt8
  fV : GVal
  fOwn : A4 Int
  deriving DecidableEq
abbrev zGEvent : GEvent := ({ fKind := 0, fWho := 0, fObj := 0, fName := [], fV := zGVal, fOwn := (⟨0, 0, 0, 0⟩ : A4 Int) } : GEvent)
abbrev eGEvent (x : GEvent) : List PV := [.int .i64 x.fKind, .int .i64 x.fWho, .int .i64 x.fObj, .str x.fName, .bool x.fV.fRef, .int .i64 x.fV.fN, .int .i64 x.fOwn.a0, .int .i64 x.fOwn.a1, .int .i64 x.fOwn.a2, .int .i64 x.fOwn.a3]
structure Gspan_strings where
  fstart : Int
  fend : Int
  deriving DecidableEq
abbrev zGspan_strings : Gspan_strings := ({ fstart := 0, fend := 0 } : Gspan_strings)
abbrev eGspan_strings (x : Gspan_strings) : List PV := [.int .i64 x.fstart, .int .i64 x.fend]
def bGEvent (a b : GEvent) : Bool := (a.fKind == b.fKind && (a.fWho == b.fWho && (a.fObj == b.fObj && (a.fName == b.fName && (a.fV.fRef == b.fV.fRef && (a.fV.fN == b.fV.fN && (a.fOwn.a0 == b.fOwn.a0 && (a.fOwn.a1 == b.fOwn.a1 && (a.fOwn.a2 == b.fOwn.a2 && (a.fOwn.a3 == b.fOwn.a3 && true))))))))))
def internal_stringslite_IndexByte (a0 : List UInt8) (a1 : Int) : Option Int :=
  some (idxB a0 a1)
def internal_stringslite_Index (a0 : List UInt8) (a1 : List UInt8) : Option Int :=
  Option.bind (if ((a1.length : Int) == 0) = true then
    some true
  else
    some (a1 == a0) : Option (Bool)) fun x2 =>
  if x2 = true then
    some 0
  else
    if ((a1.length : Int) == 1) = true then
      Option.bind (idx a1 0) fun (y7 : UInt8) =>
      Option.bind (internal_stringslite_IndexByte a0 (y7.toNat : Int)) fun (y9 : Int) =>
      some y9
    else
      if (decide ((a1.length : Int) ≥ (a0.length : Int))) = true then
        some (-1)
      else
        none
def strings_Index (a0 : List UInt8) (a1 : List UInt8) : Option Int :=
  Option.bind (internal_stringslite_Index a0 a1) fun (y1 : Int) =>
  some y1
def strings_Count_L1 (a1 : List UInt8) : Nat → (List UInt8) → Int → Option (Ctl (Int) (Unit))
  | 0, _, _ => none
  | n + 1, x12, x13 =>
    Option.bind (strings_Index x12 a1) fun (y25 : Int) =>
    if (y25 == (-1)) = true then
      some (.stop x13)
    else
      Option.bind (cutL x12 (w_i64 (y25 + (a1.length : Int))) x12.length) fun (y28 : List UInt8) =>
      strings_Count_L1 a1 n y28 (w_i64 (x13 + 1))
def strings_Count (a0 : List UInt8) (a1 : List UInt8) : Option Int :=
  if ((a1.length : Int) == 0) = true then
    none
  else
    if ((a1.length : Int) == 1) = true then
      Option.bind (idx a1 0) fun (y3 : UInt8) =>
      some (cntB a0 (y3.toNat : Int))
    else
      none
def strings_genSplit_L1 (a0 : List UInt8) (a1 : List UInt8) (a2 : Int) (x6 : Int) : Nat → (List UInt8) → (List (List UInt8)) → Int → Option ((List UInt8) × (List (List UInt8)) × Int)
  | 0, _, _, _ => none
  | n + 1, x31, x32, x33 =>
    if (decide (x33 < (w_i64 ((if (w_i64 ((a0.length : Int) + 1)) < x6 then (w_i64 ((a0.length : Int) + 1)) else x6) - 1)))) = true then
      Option.bind (strings_Index x31 a1) fun (y58 : Int) =>
      if (decide (y58 < 0)) = true then
        some (x31, x32, x33)
      else
        Option.bind (cutL x31 0 (w_i64 (y58 + a2))) fun (y65 : List UInt8) =>
        Option.bind (idx x32 x33) fun (y67 : List UInt8) =>
        Option.bind (cutL x31 (w_i64 (y58 + (a1.length : Int))) x31.length) fun (y71 : List UInt8) =>
        strings_genSplit_L1 a0 a1 a2 x6 n y71 (x32.set (x33 : Int).toNat y65) (w_i64 (x33 + 1))
    else
      some (x31, x32, x33)
def strings_genSplit (a0 : List UInt8) (a1 : List UInt8) (a2 : Int) (a3 : Int) : Option (List (List UInt8)) :=
  if (a3 == 0) = true then
    some []
  else
    if (a1 == []) = true then
      none
    else
      Option.bind (if (decide (a3 < 0)) = true then
        Option.bind (strings_Count a0 a1) fun (y4 : Int) =>
        some (w_i64 (y4 + 1))
      else
        some a3 : Option (Int)) fun x6 =>
      Option.bind (mkOk (if (w_i64 ((a0.length : Int) + 1)) < x6 then (w_i64 ((a0.length : Int) + 1)) else x6) (if (w_i64 ((a0.length : Int) + 1)) < x6 then (w_i64 ((a0.length : Int) + 1)) else x6) 16) fun (u11 : Unit) =>
      Option.bind (strings_genSplit_L1 a0 a1 a2 x6 ((((w_i64 ((if (w_i64 ((a0.length : Int) + 1)) < x6 then (w_i64 ((a0.length : Int) + 1)) else x6) - 1)) : Int) - (0)).toNat + 1) a0 (List.replicate ((if (w_i64 ((a0.length : Int) + 1)) < x6 then (w_i64 ((a0.length : Int) + 1)) else x6) : Int).toNat []) 0) fun (x76, x77, x78) =>
      Option.bind (idx x77 x78) fun (y83 : List UInt8) =>
      Option.bind (cutL (x77.set (x78 : Int).toNat x76) 0 (w_i64 (x78 + 1))) fun (y85 : List (List UInt8)) =>
      some y85
def strings_Split (a0 : List UInt8) (a1 : List UInt8) : Option (List (List UInt8)) :=
  Option.bind (strings_genSplit a0 a1 0 (-1)) fun (y1 : (List (List UInt8))) =>
  some y1
def event_pattern (a0 : Int) : Option (List UInt8) :=
  if (a0 == 1) = true then
    some [110, 101, 119, 32, 35, 111, 32, 36, 32, 98, 121, 32, 35, 119, 32, 105, 110, 32, 35, 48, 32, 35, 49, 32, 35, 50, 32, 35, 51]
  else
    if (a0 == 2) = true then
      some [112, 117, 116, 32, 35, 111, 32, 36, 32, 98, 121, 32, 35, 119, 32, 64]
    else
      if (a0 == 3) = true then
        some [99, 97, 108, 108, 32, 35, 111, 32, 36, 32, 98, 121, 32, 35, 119]
      else
        if (a0 == 4) = true then
          some [98, 97, 99, 107, 32, 35, 119, 32, 64]
        else
          if (a0 == 5) = true then
            some [109, 111, 118, 101, 32, 35, 111, 32, 116, 111, 32, 35, 48, 32, 98, 121, 32, 35, 119]
          else
            if (a0 == 6) = true then
              some [100, 101, 108, 101, 116, 101, 32, 35, 111, 32, 98, 121, 32, 35, 119]
            else
              some []
def glob_0 : List Int := [0, 0, 0, 0, 0, 0, 0, 0, 0, 1, 1, 1, 1, 1, 0, 0, 0, 0, 0, 0, 0, 0, 0, 0, 0, 0, 0, 0, 0, 0, 0, 0, 1, 0, 0, 0, 0, 0, 0, 0, 0, 0, 0, 0, 0, 0, 0, 0, 0, 0, 0, 0, 0, 0, 0, 0, 0, 0, 0, 0, 0, 0, 0, 0, 0, 0, 0, 0, 0, 0, 0, 0, 0, 0, 0, 0, 0, 0, 0, 0, 0, 0, 0, 0, 0, 0, 0, 0, 0, 0, 0, 0, 0, 0, 0, 0, 0, 0, 0, 0, 0, 0, 0, 0, 0, 0, 0, 0, 0, 0, 0, 0, 0, 0, 0, 0, 0, 0, 0, 0, 0, 0, 0, 0, 0, 0, 0, 0, 0, 0, 0, 0, 0, 0, 0, 0, 0, 0, 0, 0, 0, 0, 0, 0, 0, 0, 0, 0, 0, 0, 0, 0, 0, 0, 0, 0, 0, 0, 0, 0, 0, 0, 0, 0, 0, 0, 0, 0, 0, 0, 0, 0, 0, 0, 0, 0, 0, 0, 0, 0, 0, 0, 0, 0, 0, 0, 0, 0, 0, 0, 0, 0, 0, 0, 0, 0, 0, 0, 0, 0, 0, 0, 0, 0, 0, 0, 0, 0, 0, 0, 0, 0, 0, 0, 0, 0, 0, 0, 0, 0, 0, 0, 0, 0, 0, 0, 0, 0, 0, 0, 0, 0, 0, 0, 0, 0, 0, 0, 0, 0, 0, 0, 0, 0, 0, 0, 0, 0, 0, 0, 0, 0, 0, 0, 0, 0]
def globrow_0 : List PV := [.int .u8 0, .int .u8 0, .int .u8 0, .int .u8 0, .int .u8 0, .int .u8 0, .int .u8 0, .int .u8 0, .int .u8 0, .int .u8 1, .int .u8 1, .int .u8 1, .int .u8 1, .int .u8 1, .int .u8 0, .int .u8 0, .int .u8 0, .int .u8 0, .int .u8 0, .int .u8 0, .int .u8 0, .int .u8 0, .int .u8 0, .int .u8 0, .int .u8 0, .int .u8 0, .int .u8 0, .int .u8 0, .int .u8 0, .int .u8 0, .int .u8 0, .int .u8 0, .int .u8 1, .int .u8 0, .int .u8 0, .int .u8 0, .int .u8 0, .int .u8 0, .int .u8 0, .int .u8 0, .int .u8 0, .int .u8 0, .int .u8 0, .int .u8 0, .int .u8 0, .int .u8 0, .int .u8 0, .int .u8 0, .int .u8 0, .int .u8 0, .int .u8 0, .int .u8 0, .int .u8 0, .int .u8 0, .int .u8 0, .int .u8 0, .int .u8 0, .int .u8 0, .int .u8 0, .int .u8 0, .int .u8 0, .int .u8 0, .int .u8 0, .int .u8 0, .int .u8 0, .int .u8 0, .int .u8 0, .int .u8 0, .int .u8 0, .int .u8 0, .int .u8 0, .int .u8 0, .int .u8 0, .int .u8 0, .int .u8 0, .int .u8 0, .int .u8 0, .int .u8 0, .int .u8 0, .int .u8 0, .int .u8 0, .int .u8 0, .int .u8 0, .int .u8 0, .int .u8 0, .int .u8 0, .int .u8 0, .int .u8 0, .int .u8 0, .int .u8 0, .int .u8 0, .int .u8 0, .int .u8 0, .int .u8 0, .int .u8 0, .int .u8 0, .int .u8 0, .int .u8 0, .int .u8 0, .int .u8 0, .int .u8 0, .int .u8 0, .int .u8 0, .int .u8 0, .int .u8 0, .int .u8 0, .int .u8 0, .int .u8 0, .int .u8 0, .int .u8 0, .int .u8 0, .int .u8 0, .int .u8 0, .int .u8 0, .int .u8 0, .int .u8 0, .int .u8 0, .int .u8 0, .int .u8 0, .int .u8 0, .int .u8 0, .int .u8 0, .int .u8 0, .int .u8 0, .int .u8 0, .int .u8 0, .int .u8 0, .int .u8 0, .int .u8 0, .int .u8 0, .int .u8 0, .int .u8 0, .int .u8 0, .int .u8 0, .int .u8 0, .int .u8 0, .int .u8 0, .int .u8 0, .int .u8 0, .int .u8 0, .int .u8 0, .int .u8 0, .int .u8 0, .int .u8 0, .int .u8 0, .int .u8 0, .int .u8 0, .int .u8 0, .int .u8 0, .int .u8 0, .int .u8 0, .int .u8 0, .int .u8 0, .int .u8 0, .int .u8 0, .int .u8 0, .int .u8 0, .int .u8 0, .int .u8 0, .int .u8 0, .int .u8 0, .int .u8 0, .int .u8 0, .int .u8 0, .int .u8 0, .int .u8 0, .int .u8 0, .int .u8 0, .int .u8 0, .int .u8 0, .int .u8 0, .int .u8 0, .int .u8 0, .int .u8 0, .int .u8 0, .int .u8 0, .int .u8 0, .int .u8 0, .int .u8 0, .int .u8 0, .int .u8 0, .int .u8 0, .int .u8 0, .int .u8 0, .int .u8 0, .int .u8 0, .int .u8 0, .int .u8 0, .int .u8 0, .int .u8 0, .int .u8 0, .int .u8 0, .int .u8 0, .int .u8 0, .int .u8 0, .int .u8 0, .int .u8 0, .int .u8 0, .int .u8 0, .int .u8 0, .int .u8 0, .int .u8 0, .int .u8 0, .int .u8 0, .int .u8 0, .int .u8 0, .int .u8 0, .int .u8 0, .int .u8 0, .int .u8 0, .int .u8 0, .int .u8 0, .int .u8 0, .int .u8 0, .int .u8 0, .int .u8 0, .int .u8 0, .int .u8 0, .int .u8 0, .int .u8 0, .int .u8 0, .int .u8 0, .int .u8 0, .int .u8 0, .int .u8 0, .int .u8 0, .int .u8 0, .int .u8 0, .int .u8 0, .int .u8 0, .int .u8 0, .int .u8 0, .int .u8 0, .int .u8 0, .int .u8 0, .int .u8 0, .int .u8 0, .int .u8 0, .int .u8 0, .int .u8 0, .int .u8 0, .int .u8 0, .int .u8 0, .int .u8 0, .int .u8 0, .int .u8 0, .int .u8 0, .int .u8 0, .int .u8 0, .int .u8 0, .int .u8 0, .int .u8 0, .int .u8 0, .int .u8 0, .int .u8 0, .int .u8 0]
theorem globe_0 : globrow_0 = (List.map eI_u8 glob_0).flatten := by kernel_rfl
theorem globm_0 : (0, globrow_0) ∈ globs_Tryd := .head _
def strings_Fields_L1 (a0 : List UInt8) : Nat → Int → Int → Int → Int → Option (Int × Int)
  | 0, _, _, _, _ => none
  | n + 1, x10, x11, x12, x13 =>
    if (decide (x13 < (a0.length : Int))) = true then
      Option.bind (idx a0 x13) fun (y30 : UInt8) =>
      Option.bind (idx glob_0 (y30.toNat : Int)) fun (y34 : Int) =>
      strings_Fields_L1 a0 n (w_i64 (x10 + (andI .i64 x11 (cplI .i64 (w_i64 y34))))) (w_i64 y34) (orI .u8 x12 (y30.toNat : Int)) (w_i64 (x13 + 1))
    else
      some (x10, x12)
def strings_Fields_L2 (a0 : List UInt8) : Nat → Int → Option (Int)
  | 0, _ => none
  | n + 1, x58 =>
    Option.bind (if (decide (x58 < (a0.length : Int))) = true then
      Option.bind (idx a0 x58) fun (y70 : UInt8) =>
      Option.bind (idx glob_0 (y70.toNat : Int)) fun (y72 : Int) =>
      some (y72 != 0)
    else
      some false : Option (Bool)) fun x74 =>
    if x74 = true then
      strings_Fields_L2 a0 n (w_i64 (x58 + 1))
    else
      some x58
def strings_Fields_L4 (a0 : List UInt8) : Nat → Int → Option (Int)
  | 0, _ => none
  | n + 1, x216 =>
    Option.bind (if (decide (x216 < (a0.length : Int))) = true then
      Option.bind (idx a0 x216) fun (y228 : UInt8) =>
      Option.bind (idx glob_0 (y228.toNat : Int)) fun (y230 : Int) =>
      some (y230 != 0)
    else
      some false : Option (Bool)) fun x232 =>
    if x232 = true then
      strings_Fields_L4 a0 n (w_i64 (x216 + 1))
    else
      some x216
def strings_Fields_L3 (a0 : List UInt8) : Nat → (List (List UInt8)) → Int → Int → Int → Option ((List (List UInt8)) × Int × Int)
  | 0, _, _, _, _ => none
  | n + 1, x131, x132, x133, x134 =>
    if (decide (x134 < (a0.length : Int))) = true then
      Option.bind (idx a0 x134) fun (y194 : UInt8) =>
      Option.bind (idx glob_0 (y194.toNat : Int)) fun (y196 : Int) =>
      if (y196 == 0) = true then
        strings_Fields_L3 a0 n x131 x132 x133 (w_i64 (x134 + 1))
      else
        Option.bind (cutL a0 x133 x134) fun (y203 : List UInt8) =>
        Option.bind (idx x131 x132) fun (y205 : List UInt8) =>
        Option.bind (strings_Fields_L4 a0 (a0.length + 1) (w_i64 (x134 + 1))) fun x237 =>
        strings_Fields_L3 a0 n (x131.set (x132 : Int).toNat y203) (w_i64 (x132 + 1)) x237 x237
    else
      some (x131, x132, x133)
def strings_Fields (a0 : List UInt8) : Option (List (List UInt8)) :=
  Option.bind (strings_Fields_L1 a0 (a0.length + 1) 0 1 0 0) fun (x40, x41) =>
  if (decide (x41 ≥ 128)) = true then
    none
  else
    Option.bind (mkOk x40 x40 16) fun (u47 : Unit) =>
    Option.bind (strings_Fields_L2 a0 (a0.length + 1) 0) fun x79 =>
    Option.bind (strings_Fields_L3 a0 (a0.length + 1) (List.replicate (x40 : Int).toNat []) 0 x79 x79) fun (x243, x244, x245) =>
    if (decide (x245 < (a0.length : Int))) = true then
      Option.bind (cutL a0 x245 a0.length) fun (y249 : List UInt8) =>
      Option.bind (idx x243 x244) fun (y251 : List UInt8) =>
      some (x243.set (x244 : Int).toNat y249)
    else
      some x243
def internal_stringslite_HasPrefix (a0 : List UInt8) (a1 : List UInt8) : Option Bool :=
  if (decide ((a0.length : Int) ≥ (a1.length : Int))) = true then
    Option.bind (cutL a0 0 (a1.length : Int)) fun (y2 : List UInt8) =>
    some (y2 == a1)
  else
    some false
def internal_stringslite_CutPrefix (a0 : List UInt8) (a1 : List UInt8) : Option ((List UInt8) × Bool) :=
  Option.bind (internal_stringslite_HasPrefix a0 a1) fun (y3 : Bool) =>
  if (!y3) = true then
    some (a0, false)
  else
    Option.bind (cutL a0 (a1.length : Int) a0.length) fun (y6 : List UInt8) =>
    some (y6, true)
def strings_CutPrefix (a0 : List UInt8) (a1 : List UInt8) : Option ((List UInt8) × Bool) :=
  Option.bind (internal_stringslite_CutPrefix a0 a1) fun (y1 : (List UInt8) × Bool) =>
  some (y1.1, y1.2)
def word_Digit (a0 : Int) : Option Bool :=
  some (decide ((w_u8 (a0 - 48)) < 10))
def slices_Reverse_byte_w_L1  : Nat → (List Int) → Int → Int → Option ((List Int))
  | 0, _, _, _ => none
  | n + 1, x18, x19, x20 =>
    if (decide (x19 < x20)) = true then
      Option.bind (idx x18 x20) fun (y50 : Int) =>
      Option.bind (idx x18 x19) fun (y52 : Int) =>
      Option.bind (idx x18 x19) fun (y54 : Int) =>
      Option.bind (idx (x18.set (x19 : Int).toNat y50) x20) fun (y56 : Int) =>
      slices_Reverse_byte_w_L1 n ((x18.set (x19 : Int).toNat y50).set (x20 : Int).toNat y52) (w_i64 (x19 + 1)) (w_i64 (x20 - 1))
    else
      some x18
def slices_Reverse_byte_w (b0 : List Int) : Option (List Int) :=
  Option.bind (slices_Reverse_byte_w_L1 (b0.length + 1) b0 0 (w_i64 ((b0.length : Int) - 1))) fun x61 =>
  some x61
def word_Digits_L1  : Nat → Int → (List Int) → Option ((List Int))
  | 0, _, _ => none
  | n + 1, x12, x13 =>
    if (decide (x12 ≥ 10)) = true then
      Option.bind (room ((x13.length : Int) + ([w_u8 (w_u64 (48 + (Int.tmod (w_u64 (Int.tdiv x12 10)) 10)))].length : Int)) 1) fun (u20 : Unit) =>
      word_Digits_L1 n (w_u64 (Int.tdiv x12 10)) (x13 ++ [w_u8 (w_u64 (48 + (Int.tmod (w_u64 (Int.tdiv x12 10)) 10)))])
    else
      some x13
def word_Digits (a0 : Int) : Option (List UInt8) :=
  Option.bind (if (decide (a0 < 0)) = true then
    some (w_u64 (0 - (w_u64 a0)))
  else
    some (w_u64 a0) : Option (Int)) fun x2 =>
  Option.bind (room ((([] : List Int).length : Int) + ([w_u8 (w_u64 (48 + (Int.tmod x2 10)))].length : Int)) 1) fun (u7 : Unit) =>
  Option.bind (word_Digits_L1 21 x2 ([] ++ [w_u8 (w_u64 (48 + (Int.tmod x2 10)))])) fun x24 =>
  Option.bind (if (decide (a0 < 0)) = true then
    Option.bind (room ((x24.length : Int) + ([45].length : Int)) 1) fun (u27 : Unit) =>
    some (x24 ++ [45])
  else
    some x24 : Option ((List Int))) fun x29 =>
  Option.bind (slices_Reverse_byte_w x29) fun (y32 : (List Int)) =>
  some (strL y32)
def word_Number_L1 (a0 : List UInt8) (u8 : Unit) : Nat → Int → Int → Option (Ctl (Int × Bool) (Int))
  | 0, _, _ => none
  | n + 1, x20, x21 =>
    if (decide (x21 < ((bytesL a0).length : Int))) = true then
      Option.bind (idx (bytesL a0) x21) fun (y37 : Int) =>
      Option.bind (word_Digit y37) fun (y41 : Bool) =>
      if (!y41) = true then
        some (.stop (0, false))
      else
        word_Number_L1 a0 u8 n (w_i64 ((w_i64 (10 * x20)) + (w_i64 (andI .u8 y37 15)))) (w_i64 (x21 + 1))
    else
      some (.next x20)
def word_Number (a0 : List UInt8) : Option (Int × Bool) :=
  Option.bind (if (a0 == []) = true then
    some true
  else
    some (decide ((a0.length : Int) > 9)) : Option (Bool)) fun x2 =>
  if x2 = true then
    some (0, false)
  else
    Option.bind (room (a0.length : Int) 1) fun (u8 : Unit) =>
    Option.bind (word_Number_L1 a0 u8 (((((bytesL a0).length : Int) : Int) - (0)).toNat + 1) 0 0) fun lr47 =>
    Ctl.elim lr47 (fun v => some v) fun x46 =>
    Option.bind (word_Digits x46) fun (y51 : (List UInt8)) =>
    if (!(y51 == a0)) = true then
      some (0, false)
    else
      some (x46, true)
def event_number (a0 : List UInt8) : Option (Int × Bool) :=
  Option.bind (strings_CutPrefix a0 [45]) fun (y3 : (List UInt8) × Bool) =>
  Option.bind (word_Number y3.1) fun (y7 : Int × Bool) =>
  if y3.2 = true then
    if y7.2 = true then
      some (w_i64 (0 - y7.1), (y7.1 != 0))
    else
      some (w_i64 (0 - y7.1), false)
  else
    some (y7.1, y7.2)
def event_slot_w (a1 : Int) (b0 : GEvent) : Option Nat :=
  if (a1 == 119) = true then
    some 1
  else
    if (a1 == 111) = true then
      some 2
    else
      Option.bind (idx (b0.fOwn).l (w_u8 (a1 - 48))) fun (y3 : Int) =>
      some (6 + (w_u8 (a1 - 48) : Int).toNat * 1)
def getc_27 (x : GEvent) (k : Nat) : Option Int := if k = 0 then some (x.fKind) else if k = 1 then some (x.fWho) else if k = 2 then some (x.fObj) else if k = 5 then some (x.fV.fN) else if k = 6 then some (x.fOwn.a0) else if k = 7 then some (x.fOwn.a1) else if k = 8 then some (x.fOwn.a2) else if k = 9 then some (x.fOwn.a3) else none
theorem getc_27_ok {x : GEvent} {k : Nat} {n : Int} (h : getc_27 x k = some n) : (bxv (eGEvent x))[k]? = some (.pv (.int .i64 n)) := by
  unfold getc_27 at h
  repeat' split at h
  all_goals first | (cases h; subst_vars; rfl) | cases h
def setc_27 (x : GEvent) (k : Nat) (v : Int) : Option GEvent := if k = 0 then some ({ x with fKind := v } : GEvent) else if k = 1 then some ({ x with fWho := v } : GEvent) else if k = 2 then some ({ x with fObj := v } : GEvent) else if k = 5 then some ({ x with fV := ({ x.fV with fN := v } : GVal) } : GEvent) else if k = 6 then some ({ x with fOwn := ({ x.fOwn with a0 := v } : A4 Int) } : GEvent) else if k = 7 then some ({ x with fOwn := ({ x.fOwn with a1 := v } : A4 Int) } : GEvent) else if k = 8 then some ({ x with fOwn := ({ x.fOwn with a2 := v } : A4 Int) } : GEvent) else if k = 9 then some ({ x with fOwn := ({ x.fOwn with a3 := v } : A4 Int) } : GEvent) else none
theorem setc_27_ok {x x' : GEvent} {k : Nat} {v : Int} (h : setc_27 x k v = some x') : Nat.ble (k + 1) (bxv (eGEvent x)).length = true ∧ splice (bxv (eGEvent x)) k [.pv (.int .i64 v)] = bxv (eGEvent x') := by
  unfold setc_27 at h
  repeat' split at h
  all_goals first | (cases h; subst_vars; exact ⟨rfl, rfl⟩) | cases h
def word_Letter (a0 : Int) : Option Bool :=
  if (decide ((orI .u8 a0 32) ≥ 97)) = true then
    some (decide ((orI .u8 a0 32) ≤ 122))
  else
    some false
def glob_2 : List (List UInt8) := [[99, 108, 97, 115, 115], [101, 120, 116, 101, 110, 100, 115], [114, 101, 112], [112, 101, 101, 114], [119, 111, 114, 108, 100], [97, 110, 121], [117, 110, 105, 113, 117, 101], [112, 117, 114, 101], [118, 111, 105, 100], [105, 110, 116], [105, 102], [101, 108, 115, 101], [119, 104, 105, 108, 101], [114, 101, 116, 117, 114, 110], [110, 101, 119], [109, 111, 118, 101], [100, 101, 108, 101, 116, 101], [116, 104, 105, 115], [110, 117, 108, 108], [105, 110, 112, 117, 116], [110, 105, 108], [115, 97, 109, 101], [99, 97, 115, 116]]
def globrow_2 : List PV := [.str [99, 108, 97, 115, 115], .str [101, 120, 116, 101, 110, 100, 115], .str [114, 101, 112], .str [112, 101, 101, 114], .str [119, 111, 114, 108, 100], .str [97, 110, 121], .str [117, 110, 105, 113, 117, 101], .str [112, 117, 114, 101], .str [118, 111, 105, 100], .str [105, 110, 116], .str [105, 102], .str [101, 108, 115, 101], .str [119, 104, 105, 108, 101], .str [114, 101, 116, 117, 114, 110], .str [110, 101, 119], .str [109, 111, 118, 101], .str [100, 101, 108, 101, 116, 101], .str [116, 104, 105, 115], .str [110, 117, 108, 108], .str [105, 110, 112, 117, 116], .str [110, 105, 108], .str [115, 97, 109, 101], .str [99, 97, 115, 116]]
theorem globe_2 : globrow_2 = (List.map eS glob_2).flatten := by kernel_rfl
theorem globm_2 : (2, globrow_2) ∈ globs_Tryd := .tail _ (.head _)
def word_is (a0 : List UInt8) : Option (List UInt8) :=
  some a0
def slices_IndexFunc_string_L1 (a0 : List (List UInt8)) (q1 : (List UInt8) → Option Bool) : Nat → Int → Option (Ctl (Int) (Unit))
  | 0, _ => none
  | n + 1, x11 =>
    if (decide (x11 < (a0.length : Int))) = true then
      Option.bind (idx a0 x11) fun (y28 : List UInt8) =>
      Option.bind (q1 y28) fun (y30 : Bool) =>
      if y30 = true then
        some (.stop x11)
      else
        slices_IndexFunc_string_L1 a0 q1 n (w_i64 (x11 + 1))
    else
      some (.next ())
def slices_IndexFunc_string (a0 : List (List UInt8)) (q1 : (List UInt8) → Option Bool) : Option Int :=
  Option.bind (slices_IndexFunc_string_L1 a0 q1 ((((a0.length : Int) : Int) - (0)).toNat + 1) 0) fun lr34 =>
  Ctl.elim lr34 (fun v => some v) fun _ =>
  some (-1)
def word_is_1 (a0 : List UInt8) (c0 : List UInt8) : Option Bool :=
  some (a0 == c0)
def word_Find (a0 : List UInt8) : Option Int :=
  Option.bind (word_is a0) fun (y1 : (List UInt8)) =>
  Option.bind (slices_IndexFunc_string glob_2 (fun (z3 : List UInt8) => word_is_1 z3 y1)) fun (y4 : Int) =>
  some (w_i64 (y4 + 1))
def word_Name_L1 (a0 : List UInt8) : Nat → Int → Option (Ctl (Bool) (Unit))
  | 0, _ => none
  | n + 1, x31 =>
    if (decide (x31 < ((bytesL a0).length : Int))) = true then
      Option.bind (idx (bytesL a0) x31) fun (y52 : Int) =>
      Option.bind (Option.bind (word_Letter y52) fun (y56 : Bool) =>
      if (!y56) = true then
        Option.bind (word_Digit y52) fun (y59 : Bool) =>
        some (!y59)
      else
        some false : Option (Bool)) fun x61 =>
      if x61 = true then
        some (.stop false)
      else
        word_Name_L1 a0 n (w_i64 (x31 + 1))
    else
      some (.next ())
def word_Name (a0 : List UInt8) : Option Bool :=
  Option.bind (if (a0 == []) = true then
    some true
  else
    if (decide ((a0.length : Int) > 20)) = true then
      some true
    else
      Option.bind (idx a0 0) fun (y3 : UInt8) =>
      Option.bind (word_Letter (y3.toNat : Int)) fun (y5 : Bool) =>
      some (!y5) : Option (Bool)) fun x7 =>
  if x7 = true then
    some false
  else
    Option.bind (room (a0.length : Int) 1) fun (u13 : Unit) =>
    Option.bind (word_Name_L1 a0 (((((bytesL a0).length : Int) : Int) - (0)).toNat + 1) 0) fun lr66 =>
    Ctl.elim lr66 (fun v => some v) fun _ =>
    Option.bind (word_Find a0) fun (y68 : Int) =>
    some (y68 == 0)
def event_hear_w (a1 : List UInt8) (a2 : List UInt8) (b0 : GEvent) : Option (Bool × GEvent) :=
  Option.bind (idx a1 0) fun (y3 : UInt8) =>
  if ((y3.toNat : Int) == 35) = true then
    Option.bind (event_number a2) fun (y8 : Int × Bool) =>
    Option.bind (idx a1 1) fun (y10 : UInt8) =>
    Option.bind (event_slot_w (y10.toNat : Int) b0) fun (y12 : Nat) =>
    Option.bind (setc_27 b0 y12 y8.1) fun (y15 : GEvent) =>
    some (y8.2, y15)
  else
    if ((y3.toNat : Int) == 36) = true then
      Option.bind (word_Name a2) fun (y17 : Bool) =>
      some (y17, ({ b0 with fName := a2 } : GEvent))
    else
      if ((y3.toNat : Int) == 64) = true then
        Option.bind (strings_CutPrefix a2 [64]) fun (y22 : (List UInt8) × Bool) =>
        Option.bind (event_number y22.1) fun (y26 : Int × Bool) =>
        some (y26.2, ({ b0 with fV := ({ fRef := y22.2, fN := y26.1 } : GVal) } : GEvent))
      else
        some ((a1 == a2), b0)
def event_read_L1 (y7 : (List (List UInt8))) (y11 : (List (List UInt8))) : Nat → GEvent → Int → Option (Ctl (GEvent × Bool) (GEvent))
  | 0, _, _ => none
  | n + 1, x28, x29 =>
    if (decide (x29 < (y11.length : Int))) = true then
      Option.bind (idx y11 x29) fun (y49 : List UInt8) =>
      Option.bind (idx y7 x29) fun (y55 : List UInt8) =>
      Option.bind (event_hear_w y49 y55 x28) fun (y57 : Bool × GEvent) =>
      if (!y57.1) = true then
        some (.stop (({ fKind := 0, fWho := 0, fObj := 0, fName := [], fV := zGVal, fOwn := (⟨0, 0, 0, 0⟩ : A4 Int) } : GEvent), false))
      else
        event_read_L1 y7 y11 n y57.2 (w_i64 (x29 + 1))
    else
      some (.next x28)
def event_read (a0 : Int) (a1 : List UInt8) : Option (GEvent × Bool) :=
  Option.bind (strings_Split a1 [32]) fun (y7 : (List (List UInt8))) =>
  Option.bind (event_pattern a0) fun (y9 : (List UInt8)) =>
  Option.bind (strings_Fields y9) fun (y11 : (List (List UInt8))) =>
  if ((y7.length : Int) != (y11.length : Int)) = true then
    some (({ fKind := 0, fWho := 0, fObj := 0, fName := [], fV := zGVal, fOwn := (⟨0, 0, 0, 0⟩ : A4 Int) } : GEvent), false)
  else
    Option.bind (event_read_L1 y7 y11 ((((y11.length : Int) : Int) - (0)).toNat + 1) ({ fKind := a0, fWho := 0, fObj := 0, fName := [], fV := zGVal, fOwn := (⟨0, 0, 0, 0⟩ : A4 Int) } : GEvent) 0) fun lr63 =>
    Ctl.elim lr63 (fun v => some v) fun x62 =>
    some (x62, true)
def event_Read_L1 (a0 : List UInt8) : Nat → Int → Option (Ctl (GEvent × Bool) (Unit))
  | 0, _ => none
  | n + 1, x7 =>
    if (decide (x7 ≤ 6)) = true then
      Option.bind (event_read x7 a0) fun (y18 : GEvent × Bool) =>
      if y18.2 = true then
        some (.stop (y18.1, true))
      else
        event_Read_L1 a0 n (w_i64 (x7 + 1))
    else
      some (.next ())
def event_Read (a0 : List UInt8) : Option (GEvent × Bool) :=
  Option.bind (event_Read_L1 a0 8 1) fun lr22 =>
  Ctl.elim lr22 (fun v => some v) fun _ =>
  some (({ fKind := 0, fWho := 0, fObj := 0, fName := [], fV := zGVal, fOwn := (⟨0, 0, 0, 0⟩ : A4 Int) } : GEvent), false)
def law42_awake  : Option Bool :=
  Option.bind (event_Read [112, 117, 116, 32, 50, 32, 110, 101, 120, 116, 32, 98, 121, 32, 49, 32, 64, 51]) fun (y3 : GEvent × Bool) =>
  if y3.2 = true then
    some (bGEvent y3.1 ({ fKind := 2, fWho := 1, fObj := 2, fName := [110, 101, 120, 116], fV := ({ fRef := true, fN := 3 } : GVal), fOwn := (⟨0, 0, 0, 0⟩ : A4 Int) } : GEvent))
  else
    some false
def event_Right_L1 (a0 : GEvent) (y12 : (List (List UInt8))) : Nat → GEvent → Int → Option (Ctl (Bool) (GEvent))
  | 0, _, _ => none
  | n + 1, x44, x45 =>
    if (decide (x45 < (y12.length : Int))) = true then
      Ctl.go (obind (idx y12 x45) fun (y81 : List UInt8) =>
      obind (idx y81 0) fun (y85 : UInt8) =>
      if ((y85.toNat : Int) == 35) = true then
        obind (idx y81 1) fun (y88 : UInt8) =>
        obind (event_slot_w (y88.toNat : Int) x44) fun (y90 : Nat) =>
        obind (idx y81 1) fun (y92 : UInt8) =>
        obind (event_slot_w (y92.toNat : Int) a0) fun (y94 : Nat) =>
        obind (getc_27 a0 y94) fun (y97 : Int) =>
        obind (setc_27 x44 y90 y97) fun (y99 : GEvent) =>
        .next y99
      else
        if ((y85.toNat : Int) == 36) = true then
          obind (word_Name a0.fName) fun (y103 : Bool) =>
          if (!y103) = true then
            .stop (some (.stop false))
          else
            .next ({ x44 with fName := a0.fName } : GEvent)
        else
          if ((y85.toNat : Int) == 64) = true then
            .next ({ x44 with fV := a0.fV } : GEvent)
          else
            .next x44 : Ctl (Option (Ctl (Bool) (GEvent))) (GEvent)) fun x107 =>
      event_Right_L1 a0 y12 n x107 (w_i64 (x45 + 1))
    else
      some (.next x44)
def event_Right (a0 : GEvent) : Option Bool :=
  Option.bind (event_pattern a0.fKind) fun (y3 : (List UInt8)) =>
  if (y3 == []) = true then
    some false
  else
    Option.bind (event_pattern a0.fKind) fun (y10 : (List UInt8)) =>
    Option.bind (strings_Fields y10) fun (y12 : (List (List UInt8))) =>
    Option.bind (event_Right_L1 a0 y12 ((((y12.length : Int) : Int) - (0)).toNat + 1) ({ fKind := a0.fKind, fWho := 0, fObj := 0, fName := [], fV := zGVal, fOwn := (⟨0, 0, 0, 0⟩ : A4 Int) } : GEvent) 0) fun lr111 =>
    Ctl.elim lr111 (fun v => some v) fun x110 =>
    some (bGEvent x110 a0)
def ref42_small (a0 : Int) : Option Bool :=
  if (decide (a0 ≥ (-999999999))) = true then
    some (decide (a0 ≤ 999999999))
  else
    some false
def ref42_Small (a0 : GEvent) : Option Bool :=
  Option.bind (ref42_small a0.fWho) fun (y1 : Bool) =>
  if y1 = true then
    Option.bind (ref42_small a0.fObj) fun (y4 : Bool) =>
    if y4 = true then
      Option.bind (ref42_small a0.fV.fN) fun (y7 : Bool) =>
      if y7 = true then
        Option.bind (ref42_small a0.fOwn.a0) fun (y10 : Bool) =>
        if y10 = true then
          Option.bind (ref42_small a0.fOwn.a1) fun (y13 : Bool) =>
          if y13 = true then
            Option.bind (ref42_small a0.fOwn.a2) fun (y16 : Bool) =>
            if y16 = true then
              Option.bind (ref42_small a0.fOwn.a3) fun (y19 : Bool) =>
              some y19
            else
              some false
          else
            some false
        else
          some false
      else
        some false
    else
      some false
  else
    some false
def event_spell (a0 : GEvent) (a1 : List UInt8) : Option (List UInt8) :=
  Option.bind (idx a1 0) fun (y3 : UInt8) =>
  if ((y3.toNat : Int) == 35) = true then
    Option.bind (idx a1 1) fun (y6 : UInt8) =>
    Option.bind (event_slot_w (y6.toNat : Int) a0) fun (y8 : Nat) =>
    Option.bind (getc_27 a0 y8) fun (y11 : Int) =>
    Option.bind (word_Digits y11) fun (y12 : (List UInt8)) =>
    some y12
  else
    if ((y3.toNat : Int) == 36) = true then
      some a0.fName
    else
      if ((y3.toNat : Int) == 64) = true then
        if a0.fV.fRef = true then
          Option.bind (word_Digits a0.fV.fN) fun (y17 : (List UInt8)) =>
          Option.bind (room (([64].length : Int) + (y17.length : Int)) 1) fun (u19 : Unit) =>
          some ([64] ++ y17)
        else
          Option.bind (word_Digits a0.fV.fN) fun (y21 : (List UInt8)) =>
          some y21
      else
        some a1
def strings_Join (a0 : List (List UInt8)) (a1 : List UInt8) : Option (List UInt8) := joinF a0 a1
def event_line (a0 : List (List UInt8)) : Option (List UInt8) :=
  Option.bind (strings_Join a0 [32]) fun (y1 : List UInt8) =>
  some y1
def event_write_L1 (a0 : GEvent) (y7 : (List (List UInt8))) : Nat → (List (List UInt8)) → Int → Option ((List (List UInt8)))
  | 0, _, _ => none
  | n + 1, x22, x23 =>
    if (decide (x23 < (y7.length : Int))) = true then
      Option.bind (idx y7 x23) fun (y42 : List UInt8) =>
      Option.bind (event_spell a0 y42) fun (y48 : (List UInt8)) =>
      Option.bind (room ((x22.length : Int) + ([y48].length : Int)) 16) fun (u50 : Unit) =>
      event_write_L1 a0 y7 n (x22 ++ [y48]) (w_i64 (x23 + 1))
    else
      some x22
def event_write (a0 : GEvent) : Option (List UInt8) :=
  Option.bind (event_pattern a0.fKind) fun (y5 : (List UInt8)) =>
  Option.bind (strings_Fields y5) fun (y7 : (List (List UInt8))) =>
  Option.bind (event_write_L1 a0 y7 ((((y7.length : Int) : Int) - (0)).toNat + 1) [] 0) fun x54 =>
  Option.bind (event_line x54) fun (y56 : (List UInt8)) =>
  some y56
def event_Text (a0 : GEvent) : Option (List UInt8) :=
  Option.bind (event_Right a0) fun (y3 : Bool) =>
  if (!y3) = true then
    some []
  else
    Option.bind (event_write a0) fun (y6 : (List UInt8)) =>
    some y6
def event_All_L1 (a0 : List GEvent) : Nat → (List Int) → Int → Option ((List Int))
  | 0, _, _ => none
  | n + 1, x24, x25 =>
    if (decide (x25 < (a0.length : Int))) = true then
      Option.bind (Option.bind (idx a0 x25) fun (y54 : GEvent) =>
      Option.bind (event_Right y54) fun (y58 : Bool) =>
      if y58 = true then
        Option.bind (event_write y54) fun (y65 : (List UInt8)) =>
        Option.bind (room ((x24.length : Int) + (y65.length : Int)) 1) fun (u67 : Unit) =>
        Option.bind (room (((x24 ++ bytesL y65).length : Int) + 1) 1) fun (u69 : Unit) =>
        some ((x24 ++ bytesL y65) ++ [10])
      else
        some x24 : Option ((List Int))) fun x71 =>
      event_All_L1 a0 n x71 (w_i64 (x25 + 1))
    else
      some x24
def event_All (a0 : List GEvent) : Option (List UInt8) :=
  Option.bind (event_All_L1 a0 ((((a0.length : Int) : Int) - (0)).toNat + 1) [] 0) fun x76 =>
  Option.bind (strB x76) fun (y78 : List UInt8) =>
  some y78
def internal_stringslite_Cut (a0 : List UInt8) (a1 : List UInt8) : Option ((List UInt8) × (List UInt8) × Bool) :=
  Option.bind (internal_stringslite_Index a0 a1) fun (y3 : Int) =>
  if (decide (y3 ≥ 0)) = true then
    Option.bind (cutL a0 0 y3) fun (y6 : List UInt8) =>
    Option.bind (cutL a0 (w_i64 (y3 + (a1.length : Int))) a0.length) fun (y8 : List UInt8) =>
    some (y6, y8, true)
  else
    some (a0, [], false)
def strings_Cut (a0 : List UInt8) (a1 : List UInt8) : Option ((List UInt8) × (List UInt8) × Bool) :=
  Option.bind (internal_stringslite_Cut a0 a1) fun (y1 : (List UInt8) × (List UInt8) × Bool) =>
  some (y1.1, y1.2.1, y1.2.2)
def event_Lines_L1  : Nat → (List UInt8) → (List GEvent) → Option (Ctl ((List GEvent) × Int) ((List GEvent)))
  | 0, _, _ => none
  | n + 1, x19, x20 =>
    if (!(x19 == [])) = true then
      Option.bind (strings_Cut x19 [10]) fun (y44 : (List UInt8) × (List UInt8) × Bool) =>
      Option.bind (event_Read y44.1) fun (y48 : GEvent × Bool) =>
      Option.bind (if (!y48.2) = true then
        some true
      else
        some (!y44.2.2) : Option (Bool)) fun x51 =>
      if x51 = true then
        some (.stop ([], (x20.length : Int)))
      else
        Option.bind (room ((x20.length : Int) + ([y48.1].length : Int)) 88) fun (u57 : Unit) =>
        event_Lines_L1 n y44.2.1 (x20 ++ [y48.1])
    else
      some (.next x20)
def event_Lines (a0 : List UInt8) : Option ((List GEvent) × Int) :=
  Option.bind (event_Lines_L1 (a0.length + 1) a0 []) fun lr62 =>
  Ctl.elim lr62 (fun v => some v) fun x61 =>
  some (x61, (-1))
def law42_same_L1 (a0 : List GEvent) (a1 : List GEvent) : Nat → Int → Option (Ctl (Bool) (Unit))
  | 0, _ => none
  | n + 1, x12 =>
    if (decide (x12 < (a0.length : Int))) = true then
      Option.bind (idx a0 x12) fun (y29 : GEvent) =>
      Option.bind (idx a1 x12) fun (y31 : GEvent) =>
      if (!(bGEvent y29 y31)) = true then
        some (.stop false)
      else
        law42_same_L1 a0 a1 n (w_i64 (x12 + 1))
    else
      some (.next ())
def law42_same (a0 : List GEvent) (a1 : List GEvent) : Option Bool :=
  if ((a0.length : Int) != (a1.length : Int)) = true then
    some false
  else
    Option.bind (law42_same_L1 a0 a1 ((((a0.length : Int) : Int) - (0)).toNat + 1) 0) fun lr35 =>
    Ctl.elim lr35 (fun v => some v) fun _ =>
    some true
def law42_EventBack_L1 (a0 : List GEvent) : Nat → (List GEvent) → Int → Option (Ctl (Bool) ((List GEvent)))
  | 0, _, _ => none
  | n + 1, x54, x55 =>
    if (decide (x55 < (a0.length : Int))) = true then
      Ctl.go (obind (Option.bind (idx a0 x55) fun (y109 : GEvent) =>
      Option.bind (event_Right y109) fun (y111 : Bool) =>
      if y111 = true then
        Option.bind (idx a0 x55) fun (y114 : GEvent) =>
        Option.bind (ref42_Small y114) fun (y116 : Bool) =>
        some y116
      else
        some false : Option (Bool)) fun x118 =>
      if x118 = true then
        obind (idx a0 x55) fun (y126 : GEvent) =>
        obind (room ((x54.length : Int) + ([y126].length : Int)) 88) fun (u128 : Unit) =>
        obind (idx a0 x55) fun (y136 : GEvent) =>
        obind (event_Text y136) fun (y138 : (List UInt8)) =>
        obind (event_Read y138) fun (y140 : GEvent × Bool) =>
        obind (if (!y140.2) = true then
          some true
        else
          Option.bind (idx a0 x55) fun (y143 : GEvent) =>
          some (!(bGEvent y140.1 y143)) : Option (Bool)) fun x145 =>
        if x145 = true then
          .stop (some (.stop false))
        else
          .next (x54 ++ [y126])
      else
        .next x54 : Ctl (Option (Ctl (Bool) ((List GEvent)))) ((List GEvent))) fun x149 =>
      law42_EventBack_L1 a0 n x149 (w_i64 (x55 + 1))
    else
      some (.next x54)
def law42_EventBack (a0 : List GEvent) (a1 : List UInt8) : Option Bool :=
  Option.bind (if (decide ((a0.length : Int) > 100)) = true then
    some true
  else
    some (decide ((a1.length : Int) > 200)) : Option (Bool)) fun x2 =>
  if x2 = true then
    Option.bind law42_awake fun (y6 : Bool) =>
    some y6
  else
    Option.bind (law42_EventBack_L1 a0 ((((a0.length : Int) : Int) - (0)).toNat + 1) [] 0) fun lr153 =>
    Ctl.elim lr153 (fun v => some v) fun x152 =>
    Option.bind (event_All x152) fun (y159 : (List UInt8)) =>
    Option.bind (event_Lines y159) fun (y161 : (List GEvent) × Int) =>
    Option.bind (event_Read a1) fun (y165 : GEvent × Bool) =>
    Option.bind (if y165.2 = true then
      Option.bind (event_Text y165.1) fun (y168 : (List UInt8)) =>
      if (!(y168 == a1)) = true then
        some true
      else
        Option.bind (event_Right y165.1) fun (y171 : Bool) =>
        if (!y171) = true then
          some true
        else
          if (!y165.2) = true then
            some (!(bGEvent y165.1 ({ fKind := 0, fWho := 0, fObj := 0, fName := [], fV := zGVal, fOwn := (⟨0, 0, 0, 0⟩ : A4 Int) } : GEvent)))
          else
            some false
    else
      if (!y165.2) = true then
        some (!(bGEvent y165.1 ({ fKind := 0, fWho := 0, fObj := 0, fName := [], fV := zGVal, fOwn := (⟨0, 0, 0, 0⟩ : A4 Int) } : GEvent)))
      else
        some false : Option (Bool)) fun x176 =>
    if x176 = true then
      some false
    else
      if (y161.2 == (-1)) = true then
        Option.bind (law42_same y161.1 x152) fun (y181 : Bool) =>
        if y181 = true then
          Option.bind law42_awake fun (y184 : Bool) =>
          some y184
        else
          some false
      else
        some false
def ref42_words_L1 (a0 : List UInt8) : Nat → (List (List UInt8)) → Int → Option ((List (List UInt8)))
  | 0, _, _ => none
  | n + 1, x20, x21 =>
    if (decide (x21 < (a0.length : Int))) = true then
      Option.bind (Option.bind (idx a0 x21) fun (y46 : UInt8) =>
      if ((y46.toNat : Int) == 32) = true then
        Option.bind (room ((x20.length : Int) + (([[]] : List (List UInt8)).length : Int)) 16) fun (u49 : Unit) =>
        some (x20 ++ [[]])
      else
        Option.bind (idx x20 (w_i64 ((x20.length : Int) - 1))) fun (y51 : List UInt8) =>
        Option.bind (cutL a0 x21 (w_i64 (x21 + 1))) fun (y53 : List UInt8) =>
        Option.bind (room ((y51.length : Int) + (y53.length : Int)) 1) fun (u55 : Unit) =>
        Option.bind (idx x20 (w_i64 ((x20.length : Int) - 1))) fun (y57 : List UInt8) =>
        some (x20.set (w_i64 ((x20.length : Int) - 1) : Int).toNat (y51 ++ y53)) : Option ((List (List UInt8)))) fun x59 =>
      ref42_words_L1 a0 n x59 (w_i64 (x21 + 1))
    else
      some x20
def ref42_words (a0 : List UInt8) : Option (List (List UInt8)) :=
  Option.bind (ref42_words_L1 a0 ((((a0.length : Int) : Int) - (0)).toNat + 1) [[]] 0) fun x64 =>
  some x64
def ref02_Digit (a0 : Int) : Option Bool :=
  if (decide (a0 ≥ 48)) = true then
    some (decide (a0 ≤ 57))
  else
    some false
def ref02_Number_L1 (a0 : List UInt8) : Nat → Int → Int → Option (Ctl (Int × Bool) (Int))
  | 0, _, _ => none
  | n + 1, x24, x25 =>
    if (decide (x25 < (a0.length : Int))) = true then
      Option.bind (idx a0 x25) fun (y47 : UInt8) =>
      Option.bind (ref02_Digit (y47.toNat : Int)) fun (y49 : Bool) =>
      if (!y49) = true then
        some (.stop (0, false))
      else
        Option.bind (idx a0 x25) fun (y54 : UInt8) =>
        ref02_Number_L1 a0 n (w_i64 ((w_i64 (10 * x24)) + (w_i64 (w_u8 ((y54.toNat : Int) - 48))))) (w_i64 (x25 + 1))
    else
      some (.next x24)
def ref02_Number (a0 : List UInt8) : Option (Int × Bool) :=
  Option.bind (if (decide ((a0.length : Int) < 1)) = true then
    some true
  else
    if (decide ((a0.length : Int) > 9)) = true then
      some true
    else
      Option.bind (idx a0 0) fun (y3 : UInt8) =>
      if ((y3.toNat : Int) == 48) = true then
        some (decide ((a0.length : Int) > 1))
      else
        some false : Option (Bool)) fun x6 =>
  if x6 = true then
    some (0, false)
  else
    Option.bind (ref02_Number_L1 a0 ((((a0.length : Int) : Int) - (0)).toNat + 1) 0 0) fun lr59 =>
    Ctl.elim lr59 (fun v => some v) fun x58 =>
    some (x58, true)
def ref42_number (a0 : List UInt8) : Option Int :=
  Option.bind (if (decide ((a0.length : Int) > 0)) = true then
    Option.bind (idx a0 0) fun (y2 : UInt8) =>
    some ((y2.toNat : Int) == 45)
  else
    some false : Option (Bool)) fun x4 =>
  if x4 = true then
    Option.bind (cutL a0 1 a0.length) fun (y8 : List UInt8) =>
    Option.bind (ref02_Number y8) fun (y10 : Int × Bool) =>
    some (w_i64 (0 - y10.1))
  else
    Option.bind (ref02_Number a0) fun (y12 : Int × Bool) =>
    some y12.1
def ref42_val (a0 : List UInt8) : Option GVal :=
  Option.bind (if (decide ((a0.length : Int) > 0)) = true then
    Option.bind (idx a0 0) fun (y2 : UInt8) =>
    some ((y2.toNat : Int) == 64)
  else
    some false : Option (Bool)) fun x4 =>
  if x4 = true then
    Option.bind (cutL a0 1 a0.length) fun (y8 : List UInt8) =>
    Option.bind (ref42_number y8) fun (y10 : Int) =>
    some ({ fRef := true, fN := y10 } : GVal)
  else
    Option.bind (ref42_number a0) fun (y12 : Int) =>
    some ({ fRef := false, fN := y12 } : GVal)
def ref42_only (a0 : GEvent) : Option GEvent :=
  Option.bind (if (a0.fKind != 4) = true then
    some ({ ({ fKind := a0.fKind, fWho := a0.fWho, fObj := 0, fName := [], fV := zGVal, fOwn := (⟨0, 0, 0, 0⟩ : A4 Int) } : GEvent) with fObj := a0.fObj } : GEvent)
  else
    some ({ fKind := a0.fKind, fWho := a0.fWho, fObj := 0, fName := [], fV := zGVal, fOwn := (⟨0, 0, 0, 0⟩ : A4 Int) } : GEvent) : Option (GEvent)) fun x2 =>
  Option.bind (Option.bind (if (a0.fKind == 1) = true then
    some true
  else
    if (a0.fKind == 2) = true then
      some true
    else
      some (a0.fKind == 3) : Option (Bool)) fun x7 =>
  if x7 = true then
    some ({ x2 with fName := a0.fName } : GEvent)
  else
    some x2 : Option (GEvent)) fun x11 =>
  Option.bind (Option.bind (if (a0.fKind == 2) = true then
    some true
  else
    some (a0.fKind == 4) : Option (Bool)) fun x15 =>
  if x15 = true then
    some ({ x11 with fV := a0.fV } : GEvent)
  else
    some x11 : Option (GEvent)) fun x19 =>
  Option.bind (if (a0.fKind == 1) = true then
    some ({ x19 with fOwn := a0.fOwn } : GEvent)
  else
    some x19 : Option (GEvent)) fun x23 =>
  if (a0.fKind == 5) = true then
    some ({ x23 with fOwn := ({ x23.fOwn with a0 := a0.fOwn.a0 } : A4 Int) } : GEvent)
  else
    some x23
def ref02_Letter (a0 : Int) : Option Bool :=
  if (decide (a0 ≥ 97)) = true then
    if (decide (a0 ≤ 122)) = true then
      some true
    else
      if (decide (a0 ≥ 65)) = true then
        some (decide (a0 ≤ 90))
      else
        some false
  else
    if (decide (a0 ≥ 65)) = true then
      some (decide (a0 ≤ 90))
    else
      some false
def ref02_Words  : Option (List (List UInt8)) :=
  some [[99, 108, 97, 115, 115], [101, 120, 116, 101, 110, 100, 115], [114, 101, 112], [112, 101, 101, 114], [119, 111, 114, 108, 100], [97, 110, 121], [117, 110, 105, 113, 117, 101], [112, 117, 114, 101], [118, 111, 105, 100], [105, 110, 116], [105, 102], [101, 108, 115, 101], [119, 104, 105, 108, 101], [114, 101, 116, 117, 114, 110], [110, 101, 119], [109, 111, 118, 101], [100, 101, 108, 101, 116, 101], [116, 104, 105, 115], [110, 117, 108, 108], [105, 110, 112, 117, 116], [110, 105, 108], [115, 97, 109, 101], [99, 97, 115, 116]]
def ref02_Find_L1 (a0 : List UInt8) (y3 : (List (List UInt8))) : Nat → Int → Option (Ctl (Int) (Unit))
  | 0, _ => none
  | n + 1, x11 =>
    if (decide (x11 < (y3.length : Int))) = true then
      Option.bind (idx y3 x11) fun (y22 : List UInt8) =>
      if (y22 == a0) = true then
        some (.stop (w_i64 (x11 + 1)))
      else
        ref02_Find_L1 a0 y3 n (w_i64 (x11 + 1))
    else
      some (.next ())
def ref02_Find (a0 : List UInt8) : Option Int :=
  Option.bind ref02_Words fun (y3 : (List (List UInt8))) =>
  Option.bind (ref02_Find_L1 a0 y3 ((((y3.length : Int) : Int) - (0)).toNat + 1) 0) fun lr26 =>
  Ctl.elim lr26 (fun v => some v) fun _ =>
  some 0
def ref02_Name_L1 (a0 : List UInt8) : Nat → Int → Option (Ctl (Bool) (Unit))
  | 0, _ => none
  | n + 1, x32 =>
    if (decide (x32 < (a0.length : Int))) = true then
      Option.bind (Option.bind (idx a0 x32) fun (y57 : UInt8) =>
      Option.bind (ref02_Letter (y57.toNat : Int)) fun (y59 : Bool) =>
      if (!y59) = true then
        Option.bind (idx a0 x32) fun (y62 : UInt8) =>
        Option.bind (ref02_Digit (y62.toNat : Int)) fun (y64 : Bool) =>
        some (!y64)
      else
        some false : Option (Bool)) fun x66 =>
      if x66 = true then
        some (.stop false)
      else
        ref02_Name_L1 a0 n (w_i64 (x32 + 1))
    else
      some (.next ())
def ref02_Name (a0 : List UInt8) : Option Bool :=
  Option.bind (if (decide ((a0.length : Int) < 1)) = true then
    some true
  else
    if (decide ((a0.length : Int) > 20)) = true then
      some true
    else
      Option.bind (idx a0 0) fun (y3 : UInt8) =>
      Option.bind (ref02_Letter (y3.toNat : Int)) fun (y5 : Bool) =>
      if (!y5) = true then
        some true
      else
        Option.bind (ref02_Find a0) fun (y8 : Int) =>
        some (decide (y8 > 0)) : Option (Bool)) fun x10 =>
  if x10 = true then
    some false
  else
    Option.bind (ref02_Name_L1 a0 ((((a0.length : Int) : Int) - (0)).toNat + 1) 0) fun lr71 =>
    Ctl.elim lr71 (fun v => some v) fun _ =>
    some true
def ref42_Right (a0 : GEvent) : Option Bool :=
  if (decide (a0.fKind ≥ 1)) = true then
    if (decide (a0.fKind ≤ 6)) = true then
      Option.bind (ref42_only a0) fun (y3 : GEvent) =>
      if (bGEvent a0 y3) = true then
        if (decide (a0.fKind > 3)) = true then
          some true
        else
          Option.bind (ref02_Name a0.fName) fun (y7 : Bool) =>
          some y7
      else
        some false
    else
      some false
  else
    some false
def ref02_Digits_L1  : Nat → Int → (List UInt8) → Option ((List UInt8))
  | 0, _, _ => none
  | n + 1, x9, x10 =>
    if (decide (x9 ≤ (-10))) = true then
      Option.bind (room (((strL [w_u8 (w_i64 (48 - (Int.tmod (w_i64 (Int.tdiv x9 10)) 10)))]).length : Int) + (x10.length : Int)) 1) fun (u17 : Unit) =>
      ref02_Digits_L1 n (w_i64 (Int.tdiv x9 10)) (strL [w_u8 (w_i64 (48 - (Int.tmod (w_i64 (Int.tdiv x9 10)) 10)))] ++ x10)
    else
      some x10
def ref02_Digits (a0 : Int) : Option (List UInt8) :=
  Option.bind (if (decide (a0 < 0)) = true then
    some (a0, [45])
  else
    some (w_i64 (0 - a0), []) : Option (Int × (List UInt8))) fun (x2, x3) =>
  Option.bind (ref02_Digits_L1 21 x2 (strL [w_u8 (w_i64 (48 - (Int.tmod x2 10)))])) fun x21 =>
  Option.bind (room ((x3.length : Int) + (x21.length : Int)) 1) fun (u23 : Unit) =>
  some (x3 ++ x21)
def ref42_d (a0 : Int) : Option (List UInt8) :=
  Option.bind (ref02_Digits a0) fun (y1 : (List UInt8)) =>
  some y1
def ref42_value (a0 : GVal) : Option (List UInt8) :=
  if a0.fRef = true then
    Option.bind (ref42_d a0.fN) fun (y2 : (List UInt8)) =>
    Option.bind (room (([64].length : Int) + (y2.length : Int)) 1) fun (u4 : Unit) =>
    some ([64] ++ y2)
  else
    Option.bind (ref42_d a0.fN) fun (y6 : (List UInt8)) =>
    some y6
def ref42_Text (a0 : GEvent) : Option (List UInt8) :=
  Option.bind (ref42_Right a0) fun (y3 : Bool) =>
  if (!y3) = true then
    some []
  else
    Option.bind (ref42_d a0.fObj) fun (y114 : (List UInt8)) =>
    Option.bind (room (([110, 101, 119, 32].length : Int) + (y114.length : Int)) 1) fun (u116 : Unit) =>
    Option.bind (room ((([110, 101, 119, 32] ++ y114).length : Int) + ([32].length : Int)) 1) fun (u118 : Unit) =>
    Option.bind (room (((([110, 101, 119, 32] ++ y114) ++ [32]).length : Int) + (a0.fName.length : Int)) 1) fun (u120 : Unit) =>
    Option.bind (room ((((([110, 101, 119, 32] ++ y114) ++ [32]) ++ a0.fName).length : Int) + ([32, 98, 121, 32].length : Int)) 1) fun (u122 : Unit) =>
    Option.bind (ref42_d a0.fWho) fun (y124 : (List UInt8)) =>
    Option.bind (room (((((([110, 101, 119, 32] ++ y114) ++ [32]) ++ a0.fName) ++ [32, 98, 121, 32]).length : Int) + (y124.length : Int)) 1) fun (u126 : Unit) =>
    Option.bind (room ((((((([110, 101, 119, 32] ++ y114) ++ [32]) ++ a0.fName) ++ [32, 98, 121, 32]) ++ y124).length : Int) + ([32, 105, 110, 32].length : Int)) 1) fun (u128 : Unit) =>
    Option.bind (ref42_d a0.fOwn.a0) fun (y130 : (List UInt8)) =>
    Option.bind (room (((((((([110, 101, 119, 32] ++ y114) ++ [32]) ++ a0.fName) ++ [32, 98, 121, 32]) ++ y124) ++ [32, 105, 110, 32]).length : Int) + (y130.length : Int)) 1) fun (u132 : Unit) =>
    Option.bind (room ((((((((([110, 101, 119, 32] ++ y114) ++ [32]) ++ a0.fName) ++ [32, 98, 121, 32]) ++ y124) ++ [32, 105, 110, 32]) ++ y130).length : Int) + ([32].length : Int)) 1) fun (u134 : Unit) =>
    Option.bind (ref42_d a0.fOwn.a1) fun (y136 : (List UInt8)) =>
    Option.bind (room (((((((((([110, 101, 119, 32] ++ y114) ++ [32]) ++ a0.fName) ++ [32, 98, 121, 32]) ++ y124) ++ [32, 105, 110, 32]) ++ y130) ++ [32]).length : Int) + (y136.length : Int)) 1) fun (u138 : Unit) =>
    Option.bind (room ((((((((((([110, 101, 119, 32] ++ y114) ++ [32]) ++ a0.fName) ++ [32, 98, 121, 32]) ++ y124) ++ [32, 105, 110, 32]) ++ y130) ++ [32]) ++ y136).length : Int) + ([32].length : Int)) 1) fun (u140 : Unit) =>
    Option.bind (ref42_d a0.fOwn.a2) fun (y142 : (List UInt8)) =>
    Option.bind (room (((((((((((([110, 101, 119, 32] ++ y114) ++ [32]) ++ a0.fName) ++ [32, 98, 121, 32]) ++ y124) ++ [32, 105, 110, 32]) ++ y130) ++ [32]) ++ y136) ++ [32]).length : Int) + (y142.length : Int)) 1) fun (u144 : Unit) =>
    Option.bind (room ((((((((((((([110, 101, 119, 32] ++ y114) ++ [32]) ++ a0.fName) ++ [32, 98, 121, 32]) ++ y124) ++ [32, 105, 110, 32]) ++ y130) ++ [32]) ++ y136) ++ [32]) ++ y142).length : Int) + ([32].length : Int)) 1) fun (u146 : Unit) =>
    Option.bind (ref42_d a0.fOwn.a3) fun (y148 : (List UInt8)) =>
    Option.bind (room (((((((((((((([110, 101, 119, 32] ++ y114) ++ [32]) ++ a0.fName) ++ [32, 98, 121, 32]) ++ y124) ++ [32, 105, 110, 32]) ++ y130) ++ [32]) ++ y136) ++ [32]) ++ y142) ++ [32]).length : Int) + (y148.length : Int)) 1) fun (u150 : Unit) =>
    Option.bind (ref42_d a0.fObj) fun (y152 : (List UInt8)) =>
    Option.bind (room (([112, 117, 116, 32].length : Int) + (y152.length : Int)) 1) fun (u154 : Unit) =>
    Option.bind (room ((([112, 117, 116, 32] ++ y152).length : Int) + ([32].length : Int)) 1) fun (u156 : Unit) =>
    Option.bind (room (((([112, 117, 116, 32] ++ y152) ++ [32]).length : Int) + (a0.fName.length : Int)) 1) fun (u158 : Unit) =>
    Option.bind (room ((((([112, 117, 116, 32] ++ y152) ++ [32]) ++ a0.fName).length : Int) + ([32, 98, 121, 32].length : Int)) 1) fun (u160 : Unit) =>
    Option.bind (ref42_d a0.fWho) fun (y162 : (List UInt8)) =>
    Option.bind (room (((((([112, 117, 116, 32] ++ y152) ++ [32]) ++ a0.fName) ++ [32, 98, 121, 32]).length : Int) + (y162.length : Int)) 1) fun (u164 : Unit) =>
    Option.bind (room ((((((([112, 117, 116, 32] ++ y152) ++ [32]) ++ a0.fName) ++ [32, 98, 121, 32]) ++ y162).length : Int) + ([32].length : Int)) 1) fun (u166 : Unit) =>
    Option.bind (ref42_value a0.fV) fun (y168 : (List UInt8)) =>
    Option.bind (room (((((((([112, 117, 116, 32] ++ y152) ++ [32]) ++ a0.fName) ++ [32, 98, 121, 32]) ++ y162) ++ [32]).length : Int) + (y168.length : Int)) 1) fun (u170 : Unit) =>
    Option.bind (ref42_d a0.fObj) fun (y172 : (List UInt8)) =>
    Option.bind (room (([99, 97, 108, 108, 32].length : Int) + (y172.length : Int)) 1) fun (u174 : Unit) =>
    Option.bind (room ((([99, 97, 108, 108, 32] ++ y172).length : Int) + ([32].length : Int)) 1) fun (u176 : Unit) =>
    Option.bind (room (((([99, 97, 108, 108, 32] ++ y172) ++ [32]).length : Int) + (a0.fName.length : Int)) 1) fun (u178 : Unit) =>
    Option.bind (room ((((([99, 97, 108, 108, 32] ++ y172) ++ [32]) ++ a0.fName).length : Int) + ([32, 98, 121, 32].length : Int)) 1) fun (u180 : Unit) =>
    Option.bind (ref42_d a0.fWho) fun (y182 : (List UInt8)) =>
    Option.bind (room (((((([99, 97, 108, 108, 32] ++ y172) ++ [32]) ++ a0.fName) ++ [32, 98, 121, 32]).length : Int) + (y182.length : Int)) 1) fun (u184 : Unit) =>
    Option.bind (ref42_d a0.fWho) fun (y186 : (List UInt8)) =>
    Option.bind (room (([98, 97, 99, 107, 32].length : Int) + (y186.length : Int)) 1) fun (u188 : Unit) =>
    Option.bind (room ((([98, 97, 99, 107, 32] ++ y186).length : Int) + ([32].length : Int)) 1) fun (u190 : Unit) =>
    Option.bind (ref42_value a0.fV) fun (y192 : (List UInt8)) =>
    Option.bind (room (((([98, 97, 99, 107, 32] ++ y186) ++ [32]).length : Int) + (y192.length : Int)) 1) fun (u194 : Unit) =>
    Option.bind (ref42_d a0.fObj) fun (y196 : (List UInt8)) =>
    Option.bind (room (([109, 111, 118, 101, 32].length : Int) + (y196.length : Int)) 1) fun (u198 : Unit) =>
    Option.bind (room ((([109, 111, 118, 101, 32] ++ y196).length : Int) + ([32, 116, 111, 32].length : Int)) 1) fun (u200 : Unit) =>
    Option.bind (ref42_d a0.fOwn.a0) fun (y202 : (List UInt8)) =>
    Option.bind (room (((([109, 111, 118, 101, 32] ++ y196) ++ [32, 116, 111, 32]).length : Int) + (y202.length : Int)) 1) fun (u204 : Unit) =>
    Option.bind (room ((((([109, 111, 118, 101, 32] ++ y196) ++ [32, 116, 111, 32]) ++ y202).length : Int) + ([32, 98, 121, 32].length : Int)) 1) fun (u206 : Unit) =>
    Option.bind (ref42_d a0.fWho) fun (y208 : (List UInt8)) =>
    Option.bind (room (((((([109, 111, 118, 101, 32] ++ y196) ++ [32, 116, 111, 32]) ++ y202) ++ [32, 98, 121, 32]).length : Int) + (y208.length : Int)) 1) fun (u210 : Unit) =>
    Option.bind (ref42_d a0.fObj) fun (y212 : (List UInt8)) =>
    Option.bind (room (([100, 101, 108, 101, 116, 101, 32].length : Int) + (y212.length : Int)) 1) fun (u214 : Unit) =>
    Option.bind (room ((([100, 101, 108, 101, 116, 101, 32] ++ y212).length : Int) + ([32, 98, 121, 32].length : Int)) 1) fun (u216 : Unit) =>
    Option.bind (ref42_d a0.fWho) fun (y218 : (List UInt8)) =>
    Option.bind (room (((([100, 101, 108, 101, 116, 101, 32] ++ y212) ++ [32, 98, 121, 32]).length : Int) + (y218.length : Int)) 1) fun (u220 : Unit) =>
    Option.bind (idx [[], ((((((((((((([110, 101, 119, 32] ++ y114) ++ [32]) ++ a0.fName) ++ [32, 98, 121, 32]) ++ y124) ++ [32, 105, 110, 32]) ++ y130) ++ [32]) ++ y136) ++ [32]) ++ y142) ++ [32]) ++ y148), ((((((([112, 117, 116, 32] ++ y152) ++ [32]) ++ a0.fName) ++ [32, 98, 121, 32]) ++ y162) ++ [32]) ++ y168), ((((([99, 97, 108, 108, 32] ++ y172) ++ [32]) ++ a0.fName) ++ [32, 98, 121, 32]) ++ y182), ((([98, 97, 99, 107, 32] ++ y186) ++ [32]) ++ y192), ((((([109, 111, 118, 101, 32] ++ y196) ++ [32, 116, 111, 32]) ++ y202) ++ [32, 98, 121, 32]) ++ y208), ((([100, 101, 108, 101, 116, 101, 32] ++ y212) ++ [32, 98, 121, 32]) ++ y218)] a0.fKind) fun (y222 : List UInt8) =>
    some y222
def ref42_Read_L1 (a0 : List UInt8) (y89 : Int) (y91 : List UInt8) (y95 : Int) (y99 : Int) (y103 : Int) (y107 : Int) (y111 : Int) (y115 : Int) (y117 : List UInt8) (y121 : Int) (y125 : GVal) (y129 : Int) (y131 : List UInt8) (y135 : Int) (y139 : Int) (y143 : GVal) (y147 : Int) (y151 : Int) (y155 : Int) (y159 : Int) (y163 : Int) : Nat → Int → Option (Ctl (GEvent × Bool) (Unit))
  | 0, _ => none
  | n + 1, x177 =>
    if (decide (x177 < ([({ fKind := 1, fWho := y95, fObj := y89, fName := y91, fV := zGVal, fOwn := (⟨y99, y103, y107, y111⟩ : A4 Int) } : GEvent), ({ fKind := 2, fWho := y121, fObj := y115, fName := y117, fV := y125, fOwn := (⟨0, 0, 0, 0⟩ : A4 Int) } : GEvent), ({ fKind := 3, fWho := y135, fObj := y129, fName := y131, fV := zGVal, fOwn := (⟨0, 0, 0, 0⟩ : A4 Int) } : GEvent), ({ fKind := 4, fWho := y139, fObj := 0, fName := [], fV := y143, fOwn := (⟨0, 0, 0, 0⟩ : A4 Int) } : GEvent), ({ fKind := 5, fWho := y155, fObj := y147, fName := [], fV := zGVal, fOwn := (⟨y151, 0, 0, 0⟩ : A4 Int) } : GEvent), ({ fKind := 6, fWho := y163, fObj := y159, fName := [], fV := zGVal, fOwn := (⟨0, 0, 0, 0⟩ : A4 Int) } : GEvent)].length : Int))) = true then
      Option.bind (if (!(a0 == [])) = true then
        Option.bind (idx [({ fKind := 1, fWho := y95, fObj := y89, fName := y91, fV := zGVal, fOwn := (⟨y99, y103, y107, y111⟩ : A4 Int) } : GEvent), ({ fKind := 2, fWho := y121, fObj := y115, fName := y117, fV := y125, fOwn := (⟨0, 0, 0, 0⟩ : A4 Int) } : GEvent), ({ fKind := 3, fWho := y135, fObj := y129, fName := y131, fV := zGVal, fOwn := (⟨0, 0, 0, 0⟩ : A4 Int) } : GEvent), ({ fKind := 4, fWho := y139, fObj := 0, fName := [], fV := y143, fOwn := (⟨0, 0, 0, 0⟩ : A4 Int) } : GEvent), ({ fKind := 5, fWho := y155, fObj := y147, fName := [], fV := zGVal, fOwn := (⟨y151, 0, 0, 0⟩ : A4 Int) } : GEvent), ({ fKind := 6, fWho := y163, fObj := y159, fName := [], fV := zGVal, fOwn := (⟨0, 0, 0, 0⟩ : A4 Int) } : GEvent)] x177) fun (y193 : GEvent) =>
        Option.bind (ref42_Text y193) fun (y195 : (List UInt8)) =>
        some (y195 == a0)
      else
        some false : Option (Bool)) fun x197 =>
      if x197 = true then
        Option.bind (idx [({ fKind := 1, fWho := y95, fObj := y89, fName := y91, fV := zGVal, fOwn := (⟨y99, y103, y107, y111⟩ : A4 Int) } : GEvent), ({ fKind := 2, fWho := y121, fObj := y115, fName := y117, fV := y125, fOwn := (⟨0, 0, 0, 0⟩ : A4 Int) } : GEvent), ({ fKind := 3, fWho := y135, fObj := y129, fName := y131, fV := zGVal, fOwn := (⟨0, 0, 0, 0⟩ : A4 Int) } : GEvent), ({ fKind := 4, fWho := y139, fObj := 0, fName := [], fV := y143, fOwn := (⟨0, 0, 0, 0⟩ : A4 Int) } : GEvent), ({ fKind := 5, fWho := y155, fObj := y147, fName := [], fV := zGVal, fOwn := (⟨y151, 0, 0, 0⟩ : A4 Int) } : GEvent), ({ fKind := 6, fWho := y163, fObj := y159, fName := [], fV := zGVal, fOwn := (⟨0, 0, 0, 0⟩ : A4 Int) } : GEvent)] x177) fun (y201 : GEvent) =>
        some (.stop (y201, true))
      else
        ref42_Read_L1 a0 y89 y91 y95 y99 y103 y107 y111 y115 y117 y121 y125 y129 y131 y135 y139 y143 y147 y151 y155 y159 y163 n (w_i64 (x177 + 1))
    else
      some (.next ())
def ref42_Read (a0 : List UInt8) : Option (GEvent × Bool) :=
  Option.bind (ref42_words a0) fun (y5 : (List (List UInt8))) =>
  Option.bind (room ((y5.length : Int) + (([[], [], [], [], [], [], [], [], [], []] : List (List UInt8)).length : Int)) 16) fun (u7 : Unit) =>
  Option.bind (idx (y5 ++ [[], [], [], [], [], [], [], [], [], []]) 1) fun (y87 : List UInt8) =>
  Option.bind (ref42_number y87) fun (y89 : Int) =>
  Option.bind (idx (y5 ++ [[], [], [], [], [], [], [], [], [], []]) 2) fun (y91 : List UInt8) =>
  Option.bind (idx (y5 ++ [[], [], [], [], [], [], [], [], [], []]) 4) fun (y93 : List UInt8) =>
  Option.bind (ref42_number y93) fun (y95 : Int) =>
  Option.bind (idx (y5 ++ [[], [], [], [], [], [], [], [], [], []]) 6) fun (y97 : List UInt8) =>
  Option.bind (ref42_number y97) fun (y99 : Int) =>
  Option.bind (idx (y5 ++ [[], [], [], [], [], [], [], [], [], []]) 7) fun (y101 : List UInt8) =>
  Option.bind (ref42_number y101) fun (y103 : Int) =>
  Option.bind (idx (y5 ++ [[], [], [], [], [], [], [], [], [], []]) 8) fun (y105 : List UInt8) =>
  Option.bind (ref42_number y105) fun (y107 : Int) =>
  Option.bind (idx (y5 ++ [[], [], [], [], [], [], [], [], [], []]) 9) fun (y109 : List UInt8) =>
  Option.bind (ref42_number y109) fun (y111 : Int) =>
  Option.bind (idx (y5 ++ [[], [], [], [], [], [], [], [], [], []]) 1) fun (y113 : List UInt8) =>
  Option.bind (ref42_number y113) fun (y115 : Int) =>
  Option.bind (idx (y5 ++ [[], [], [], [], [], [], [], [], [], []]) 2) fun (y117 : List UInt8) =>
  Option.bind (idx (y5 ++ [[], [], [], [], [], [], [], [], [], []]) 4) fun (y119 : List UInt8) =>
  Option.bind (ref42_number y119) fun (y121 : Int) =>
  Option.bind (idx (y5 ++ [[], [], [], [], [], [], [], [], [], []]) 5) fun (y123 : List UInt8) =>
  Option.bind (ref42_val y123) fun (y125 : GVal) =>
  Option.bind (idx (y5 ++ [[], [], [], [], [], [], [], [], [], []]) 1) fun (y127 : List UInt8) =>
  Option.bind (ref42_number y127) fun (y129 : Int) =>
  Option.bind (idx (y5 ++ [[], [], [], [], [], [], [], [], [], []]) 2) fun (y131 : List UInt8) =>
  Option.bind (idx (y5 ++ [[], [], [], [], [], [], [], [], [], []]) 4) fun (y133 : List UInt8) =>
  Option.bind (ref42_number y133) fun (y135 : Int) =>
  Option.bind (idx (y5 ++ [[], [], [], [], [], [], [], [], [], []]) 1) fun (y137 : List UInt8) =>
  Option.bind (ref42_number y137) fun (y139 : Int) =>
  Option.bind (idx (y5 ++ [[], [], [], [], [], [], [], [], [], []]) 2) fun (y141 : List UInt8) =>
  Option.bind (ref42_val y141) fun (y143 : GVal) =>
  Option.bind (idx (y5 ++ [[], [], [], [], [], [], [], [], [], []]) 1) fun (y145 : List UInt8) =>
  Option.bind (ref42_number y145) fun (y147 : Int) =>
  Option.bind (idx (y5 ++ [[], [], [], [], [], [], [], [], [], []]) 3) fun (y149 : List UInt8) =>
  Option.bind (ref42_number y149) fun (y151 : Int) =>
  Option.bind (idx (y5 ++ [[], [], [], [], [], [], [], [], [], []]) 5) fun (y153 : List UInt8) =>
  Option.bind (ref42_number y153) fun (y155 : Int) =>
  Option.bind (idx (y5 ++ [[], [], [], [], [], [], [], [], [], []]) 1) fun (y157 : List UInt8) =>
  Option.bind (ref42_number y157) fun (y159 : Int) =>
  Option.bind (idx (y5 ++ [[], [], [], [], [], [], [], [], [], []]) 3) fun (y161 : List UInt8) =>
  Option.bind (ref42_number y161) fun (y163 : Int) =>
  Option.bind (ref42_Read_L1 a0 y89 y91 y95 y99 y103 y107 y111 y115 y117 y121 y125 y129 y131 y135 y139 y143 y147 y151 y155 y159 y163 (((([({ fKind := 1, fWho := y95, fObj := y89, fName := y91, fV := zGVal, fOwn := (⟨y99, y103, y107, y111⟩ : A4 Int) } : GEvent), ({ fKind := 2, fWho := y121, fObj := y115, fName := y117, fV := y125, fOwn := (⟨0, 0, 0, 0⟩ : A4 Int) } : GEvent), ({ fKind := 3, fWho := y135, fObj := y129, fName := y131, fV := zGVal, fOwn := (⟨0, 0, 0, 0⟩ : A4 Int) } : GEvent), ({ fKind := 4, fWho := y139, fObj := 0, fName := [], fV := y143, fOwn := (⟨0, 0, 0, 0⟩ : A4 Int) } : GEvent), ({ fKind := 5, fWho := y155, fObj := y147, fName := [], fV := zGVal, fOwn := (⟨y151, 0, 0, 0⟩ : A4 Int) } : GEvent), ({ fKind := 6, fWho := y163, fObj := y159, fName := [], fV := zGVal, fOwn := (⟨0, 0, 0, 0⟩ : A4 Int) } : GEvent)].length : Int) : Int) - (0)).toNat + 1) 0) fun lr204 =>
  Ctl.elim lr204 (fun v => some v) fun _ =>
  some (({ fKind := 0, fWho := 0, fObj := 0, fName := [], fV := zGVal, fOwn := (⟨0, 0, 0, 0⟩ : A4 Int) } : GEvent), false)
def ref42_Lines_L1 (a0 : List UInt8) : Nat → (List GEvent) → (List UInt8) → Int → Option (Ctl ((List GEvent) × Int) ((List GEvent) × (List UInt8)))
  | 0, _, _, _ => none
  | n + 1, x26, x27, x28 =>
    if (decide (x28 < (a0.length : Int))) = true then
      Ctl.go (obind (idx a0 x28) fun (y60 : UInt8) =>
      if ((y60.toNat : Int) != 10) = true then
        obind (cutL a0 x28 (w_i64 (x28 + 1))) fun (y67 : List UInt8) =>
        obind (room ((x27.length : Int) + (y67.length : Int)) 1) fun (u69 : Unit) =>
        .next (x26, (x27 ++ y67))
      else
        obind (ref42_Read x27) fun (y73 : GEvent × Bool) =>
        if (!y73.2) = true then
          .stop (some (.stop ([], (x26.length : Int))))
        else
          obind (room ((x26.length : Int) + ([y73.1].length : Int)) 88) fun (u78 : Unit) =>
          .next ((x26 ++ [y73.1]), []) : Ctl (Option (Ctl ((List GEvent) × Int) ((List GEvent) × (List UInt8)))) ((List GEvent) × (List UInt8))) fun (x80, x81) =>
      ref42_Lines_L1 a0 n x80 x81 (w_i64 (x28 + 1))
    else
      some (.next (x26, x27))
def ref42_Lines (a0 : List UInt8) : Option ((List GEvent) × Int) :=
  Option.bind (ref42_Lines_L1 a0 ((((a0.length : Int) : Int) - (0)).toNat + 1) [] [] 0) fun lr87 =>
  Ctl.elim lr87 (fun v => some v) fun (x85, x86) =>
  if (!(x86 == [])) = true then
    some ([], (x85.length : Int))
  else
    some (x85, (-1))
def law42_EventRead (a0 : List UInt8) (a1 : List UInt8) : Option Bool :=
  Option.bind (if (decide ((a0.length : Int) > 200)) = true then
    some true
  else
    some (decide ((a1.length : Int) > 600)) : Option (Bool)) fun x2 =>
  if x2 = true then
    Option.bind law42_awake fun (y6 : Bool) =>
    some y6
  else
    Option.bind (event_Read a0) fun (y10 : GEvent × Bool) =>
    Option.bind (ref42_Read a0) fun (y14 : GEvent × Bool) =>
    Option.bind (event_Lines a1) fun (y18 : (List GEvent) × Int) =>
    Option.bind (ref42_Lines a1) fun (y22 : (List GEvent) × Int) =>
    if (bGEvent y10.1 y14.1) = true then
      if (y10.2 == y14.2) = true then
        Option.bind (law42_same y18.1 y22.1) fun (y26 : Bool) =>
        if y26 = true then
          if (y18.2 == y22.2) = true then
            Option.bind law42_awake fun (y30 : Bool) =>
            some y30
          else
            some false
        else
          some false
      else
        some false
    else
      some false
end
end Go.Proofs.YtccladleehbmhaaDoor
