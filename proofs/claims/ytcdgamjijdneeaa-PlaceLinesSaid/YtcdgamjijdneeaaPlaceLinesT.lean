/- A part of the proof that the law PlaceLines gives true for every input. -/
import Derived.Test.YtcdgamjijdneeaaAbsW
/- The types and the plain functions. -/
namespace Go.Proofs.Ytcdgamjijdneeaa
open Go.RowKit Go.Abs
noncomputable section
structure Gline_place where
  fn : Int
  ffrom : Int
  fto : Int
  deriving DecidableEq
abbrev eGline_place (x : Gline_place) : List PV := [.int .i64 x.fn, .int .i64 x.ffrom, .int .i64 x.fto]
def internal_stringslite_IndexByte (a0 : List UInt8) (a1 : Int) : Option Int :=
  some (idxB a0 a1)
def strings_Count (a0 : List UInt8) (a1 : List UInt8) : Option Int :=
  if ((a1.length : Int) == 0) = true then
    none
  else
    if ((a1.length : Int) == 1) = true then
      Option.bind (idx a1 0) fun (y3 : UInt8) =>
      some (cntB a0 (y3.toNat : Int))
    else
      none
def internal_bytealg_LastIndexByteString_L1 (a0 : List UInt8) (a1 : Int) : Nat → Int → Option (Ctl (Int) (Unit))
  | 0, _ => none
  | n + 1, x7 =>
    if (decide (x7 ≥ 0)) = true then
      Option.bind (idx a0 x7) fun (y18 : UInt8) =>
      if ((y18.toNat : Int) == a1) = true then
        some (.stop x7)
      else
        internal_bytealg_LastIndexByteString_L1 a0 a1 n (w_i64 (x7 - 1))
    else
      some (.next ())
def internal_bytealg_LastIndexByteString (a0 : List UInt8) (a1 : Int) : Option Int :=
  Option.bind (internal_bytealg_LastIndexByteString_L1 a0 a1 ((((w_i64 ((a0.length : Int) - 1)) : Int) - (0)).toNat + 2) (w_i64 ((a0.length : Int) - 1))) fun lr22 =>
  Ctl.elim lr22 (fun v => some v) fun _ =>
  some (-1)
def strings_LastIndexByte (a0 : List UInt8) (a1 : Int) : Option Int :=
  Option.bind (internal_bytealg_LastIndexByteString a0 a1) fun (y1 : Int) =>
  some y1
def place_Of (a0 : List UInt8) (a1 : Int) : Option (Int × Int) :=
  Option.bind (cutL a0 0 (if (if (a0.length : Int) < a1 then (a0.length : Int) else a1) > 0 then (if (a0.length : Int) < a1 then (a0.length : Int) else a1) else 0)) fun (y3 : List UInt8) =>
  Option.bind (strings_Count y3 [10]) fun (y5 : Int) =>
  Option.bind (strings_LastIndexByte y3 10) fun (y7 : Int) =>
  some (w_i64 (y5 + 1), w_i64 ((if (if (a0.length : Int) < a1 then (a0.length : Int) else a1) > 0 then (if (a0.length : Int) < a1 then (a0.length : Int) else a1) else 0) - y7))
def law01_awake  : Option Bool :=
  Option.bind (place_Of [97, 98, 10, 99] 3) fun (y3 : Int × Int) =>
  Option.bind (place_Of [97, 98, 10, 99] 2) fun (y7 : Int × Int) =>
  if (y3.1 == 2) = true then
    if (y3.2 == 1) = true then
      if (y7.1 == 1) = true then
        some (y7.2 == 3)
      else
        some false
    else
      some false
  else
    some false
def place_Lines (a0 : List UInt8) : Option Int :=
  Option.bind (strings_Count a0 [10]) fun (y1 : Int) =>
  some (w_i64 (y1 + 1))
def place_lines (a0 : List UInt8) : Option (List UInt8) :=
  some a0
def strings_IndexByte (a0 : List UInt8) (a1 : Int) : Option Int :=
  Option.bind (internal_stringslite_IndexByte a0 a1) fun (y1 : Int) =>
  some y1
def place_lines_1_L1 (c0 : List UInt8) (sp : Nat) (rows : List (Gline_place)) : Nat → Nat → Int → Int → Option (Ctl (Nat) (Unit))
  | 0, _, _, _ => none
  | n + 1, x17, x18, x19 =>
    Option.bind (cutL c0 x18 c0.length) fun (y43 : List UInt8) =>
    Option.bind (strings_IndexByte y43 10) fun (y45 : Int) =>
    if (decide (y45 < 0)) = true then
      Option.bind (yck rows sp x17 ({ fn := x19, ffrom := x18, fto := (c0.length : Int) } : Gline_place)) fun (u48 : Unit) =>
      some (.stop (x17 + 1))
    else
      Option.bind (yck rows sp x17 ({ fn := x19, ffrom := x18, fto := w_i64 (x18 + y45) } : Gline_place)) fun (u52 : Unit) =>
      if (!(!(x17 == sp))) = true then
        some (.stop (x17 + 1))
      else
        place_lines_1_L1 c0 sp rows n (x17 + 1) (w_i64 (x18 + (w_i64 (y45 + 1)))) (w_i64 (x19 + 1))
def place_lines_1 (rows : List (Gline_place)) (sp : Nat) (c0 : List UInt8) : Option Nat :=
  Option.bind (place_lines_1_L1 c0 sp rows (c0.length + 2) 0 0 1) fun lr58 => Ctl.elim lr58 (fun v => some v) fun _ => none
def linesF : List UInt8 → Nat → Nat → Nat → List Gline_place
  | [], n, f, pos => [{ fn := (n : Int), ffrom := (f : Int), fto := (pos : Int) }]
  | c :: r, n, f, pos => if c == 10 then { fn := (n : Int), ffrom := (f : Int), fto := (pos : Int) } :: linesF r (n + 1) (pos + 1) (pos + 1) else linesF r n f (pos + 1)
def itR_lines (t : List UInt8) : Option (List Gline_place) := if t.length < 4611686018427387904 then some (linesF t 1 0 0) else none
def place_find_B1 (a1 : Int) : Gline_place → Unit → Option (Ctl Gline_place Unit)
  | x9, _ =>
    if (x9.fn == a1) = true then
      some (.stop x9)
    else
      some (.next ())
def place_find (a0 : List UInt8) (a1 : Int) : Option (Gline_place × Bool) :=
  Option.bind (place_lines a0) fun (y3 : (List UInt8)) =>
  Option.bind (itR_lines y3) fun (rows12 : List (Gline_place)) =>
  Option.bind (runs (place_find_B1 a1) rows12 ()) fun (lr14 : Ctl Gline_place Unit) =>
  Ctl.elim lr14 (fun x11 =>
    some (x11, true)) (fun _ =>
    some (({ fn := 0, ffrom := 0, fto := 0 } : Gline_place), false))
def place_Line (a0 : List UInt8) (a1 : Int) : Option ((List UInt8) × Bool) :=
  Option.bind (place_find a0 a1) fun (y3 : Gline_place × Bool) =>
  Option.bind (cutL a0 y3.1.ffrom y3.1.fto) fun (y5 : List UInt8) =>
  some (y5, y3.2)
def law01_PlaceLines_L2 (y105 : (List UInt8) × Bool) : Nat → Int → Option (Ctl (Bool) (Unit))
  | 0, _ => none
  | n + 1, x114 =>
    if (decide (x114 < (y105.1.length : Int))) = true then
      Option.bind (idx y105.1 x114) fun (y125 : UInt8) =>
      if ((y125.toNat : Int) == 10) = true then
        some (.stop false)
      else
        law01_PlaceLines_L2 y105 n (w_i64 (x114 + 1))
    else
      some (.next ())
def law01_PlaceLines_L1 (a0 : List UInt8) (y6 : Int) : Nat → (List UInt8) → Int → Option (Ctl (Bool) ((List UInt8)))
  | 0, _, _ => none
  | n + 1, x51, x52 =>
    Option.bind (if (decide (x52 ≤ y6)) = true then
      some (decide (x52 ≤ 1001))
    else
      some false : Option (Bool)) fun x99 =>
    if x99 = true then
      Option.bind (place_Line a0 x52) fun (y105 : (List UInt8) × Bool) =>
      if (!y105.2) = true then
        some (.stop false)
      else
        Option.bind (law01_PlaceLines_L2 y105 ((((y105.1.length : Int) : Int) - (0)).toNat + 1) 0) fun lr129 =>
        Ctl.elim lr129 (fun v => some (.stop v)) fun _ =>
        Option.bind (if (decide (x52 > 1)) = true then
          Option.bind (room ((x51.length : Int) + ([10].length : Int)) 1) fun (u132 : Unit) =>
          some (x51 ++ [10])
        else
          some x51 : Option ((List UInt8))) fun x134 =>
        Option.bind (room ((x134.length : Int) + (y105.1.length : Int)) 1) fun (u139 : Unit) =>
        law01_PlaceLines_L1 a0 y6 n (x134 ++ y105.1) (w_i64 (x52 + 1))
    else
      some (.next x51)
def law01_PlaceLines (a0 : List UInt8) (a1 : Int) : Option Bool :=
  if (decide ((a0.length : Int) > 1000)) = true then
    Option.bind law01_awake fun (y2 : Bool) =>
    some y2
  else
    Option.bind (place_Lines a0) fun (y6 : Int) =>
    Option.bind (law01_PlaceLines_L1 a0 y6 1003 [] 1) fun lr144 =>
    Ctl.elim lr144 (fun v => some v) fun x143 =>
    Option.bind (place_Line a0 a1) fun (y148 : (List UInt8) × Bool) =>
    if (x143 == a0) = true then
      if (decide (a1 ≥ 1)) = true then
        if (y148.2 == (decide (a1 ≤ y6))) = true then
          if y148.2 = true then
            Option.bind law01_awake fun (y154 : Bool) =>
            some y154
          else
            if (y148.1 == []) = true then
              Option.bind law01_awake fun (y157 : Bool) =>
              some y157
            else
              some false
        else
          some false
      else
        if (y148.2 == false) = true then
          if y148.2 = true then
            Option.bind law01_awake fun (y161 : Bool) =>
            some y161
          else
            if (y148.1 == []) = true then
              Option.bind law01_awake fun (y164 : Bool) =>
              some y164
            else
              some false
        else
          some false
    else
      some false
end
end Go.Proofs.Ytcdgamjijdneeaa
