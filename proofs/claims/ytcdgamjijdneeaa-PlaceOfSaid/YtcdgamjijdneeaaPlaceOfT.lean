/- A part of the proof that the law PlaceOf gives true for every input. -/
import Derived.Test.YtcdgamjijdneeaaAbsW
/- The types and the plain functions. -/
namespace Go.Proofs.Ytcdgamjijdneeaa
open Go.RowKit Go.Abs
noncomputable section
structure Gline_place where
  fn : Int
  ffrom : Int
  fto : Int
  deriving DecidableEq
abbrev eGline_place (x : Gline_place) : List PV := [.int .i64 x.fn, .int .i64 x.ffrom, .int .i64 x.fto]
def internal_stringslite_IndexByte (a0 : List UInt8) (a1 : Int) : Option Int :=
  some (idxB a0 a1)
def strings_Count (a0 : List UInt8) (a1 : List UInt8) : Option Int :=
  if ((a1.length : Int) == 0) = true then
    none
  else
    if ((a1.length : Int) == 1) = true then
      Option.bind (idx a1 0) fun (y3 : UInt8) =>
      some (cntB a0 (y3.toNat : Int))
    else
      none
def internal_bytealg_LastIndexByteString_L1 (a0 : List UInt8) (a1 : Int) : Nat → Int → Option (Ctl (Int) (Unit))
  | 0, _ => none
  | n + 1, x7 =>
    if (decide (x7 ≥ 0)) = true then
      Option.bind (idx a0 x7) fun (y18 : UInt8) =>
      if ((y18.toNat : Int) == a1) = true then
        some (.stop x7)
      else
        internal_bytealg_LastIndexByteString_L1 a0 a1 n (w_i64 (x7 - 1))
    else
      some (.next ())
def internal_bytealg_LastIndexByteString (a0 : List UInt8) (a1 : Int) : Option Int :=
  Option.bind (internal_bytealg_LastIndexByteString_L1 a0 a1 ((((w_i64 ((a0.length : Int) - 1)) : Int) - (0)).toNat + 2) (w_i64 ((a0.length : Int) - 1))) fun lr22 =>
  Ctl.elim lr22 (fun v => some v) fun _ =>
  some (-1)
def strings_LastIndexByte (a0 : List UInt8) (a1 : Int) : Option Int :=
  Option.bind (internal_bytealg_LastIndexByteString a0 a1) fun (y1 : Int) =>
  some y1
def place_Of (a0 : List UInt8) (a1 : Int) : Option (Int × Int) :=
  Option.bind (cutL a0 0 (if (if (a0.length : Int) < a1 then (a0.length : Int) else a1) > 0 then (if (a0.length : Int) < a1 then (a0.length : Int) else a1) else 0)) fun (y3 : List UInt8) =>
  Option.bind (strings_Count y3 [10]) fun (y5 : Int) =>
  Option.bind (strings_LastIndexByte y3 10) fun (y7 : Int) =>
  some (w_i64 (y5 + 1), w_i64 ((if (if (a0.length : Int) < a1 then (a0.length : Int) else a1) > 0 then (if (a0.length : Int) < a1 then (a0.length : Int) else a1) else 0) - y7))
def law01_awake  : Option Bool :=
  Option.bind (place_Of [97, 98, 10, 99] 3) fun (y3 : Int × Int) =>
  Option.bind (place_Of [97, 98, 10, 99] 2) fun (y7 : Int × Int) =>
  if (y3.1 == 2) = true then
    if (y3.2 == 1) = true then
      if (y7.1 == 1) = true then
        some (y7.2 == 3)
      else
        some false
    else
      some false
  else
    some false
def ref01_Of_L1 (a0 : List UInt8) (a1 : Int) : Nat → Int → Int → Int → Option (Int × Int)
  | 0, _, _, _ => none
  | n + 1, x15, x16, x17 =>
    Option.bind (if (decide (x17 < (a0.length : Int))) = true then
      some (decide (x17 < a1))
    else
      some false : Option (Bool)) fun x36 =>
    if x36 = true then
      Option.bind (Option.bind (idx a0 x17) fun (y42 : UInt8) =>
      if ((y42.toNat : Int) == 10) = true then
        some (w_i64 (x15 + 1), 1)
      else
        some (x15, w_i64 (x16 + 1)) : Option (Int × Int)) fun (x45, x46) =>
      ref01_Of_L1 a0 a1 n x45 x46 (w_i64 (x17 + 1))
    else
      some (x15, x16)
def ref01_Of (a0 : List UInt8) (a1 : Int) : Option (Int × Int) :=
  Option.bind (ref01_Of_L1 a0 a1 (a0.length + 1) 1 1 0) fun (x52, x53) =>
  some (x52, x53)
def place_lines (a0 : List UInt8) : Option (List UInt8) :=
  some a0
def strings_IndexByte (a0 : List UInt8) (a1 : Int) : Option Int :=
  Option.bind (internal_stringslite_IndexByte a0 a1) fun (y1 : Int) =>
  some y1
def place_lines_1_L1 (c0 : List UInt8) (sp : Nat) (rows : List (Gline_place)) : Nat → Nat → Int → Int → Option (Ctl (Nat) (Unit))
  | 0, _, _, _ => none
  | n + 1, x17, x18, x19 =>
    Option.bind (cutL c0 x18 c0.length) fun (y43 : List UInt8) =>
    Option.bind (strings_IndexByte y43 10) fun (y45 : Int) =>
    if (decide (y45 < 0)) = true then
      Option.bind (yck rows sp x17 ({ fn := x19, ffrom := x18, fto := (c0.length : Int) } : Gline_place)) fun (u48 : Unit) =>
      some (.stop (x17 + 1))
    else
      Option.bind (yck rows sp x17 ({ fn := x19, ffrom := x18, fto := w_i64 (x18 + y45) } : Gline_place)) fun (u52 : Unit) =>
      if (!(!(x17 == sp))) = true then
        some (.stop (x17 + 1))
      else
        place_lines_1_L1 c0 sp rows n (x17 + 1) (w_i64 (x18 + (w_i64 (y45 + 1)))) (w_i64 (x19 + 1))
def place_lines_1 (rows : List (Gline_place)) (sp : Nat) (c0 : List UInt8) : Option Nat :=
  Option.bind (place_lines_1_L1 c0 sp rows (c0.length + 2) 0 0 1) fun lr58 => Ctl.elim lr58 (fun v => some v) fun _ => none
def linesF : List UInt8 → Nat → Nat → Nat → List Gline_place
  | [], n, f, pos => [{ fn := (n : Int), ffrom := (f : Int), fto := (pos : Int) }]
  | c :: r, n, f, pos => if c == 10 then { fn := (n : Int), ffrom := (f : Int), fto := (pos : Int) } :: linesF r (n + 1) (pos + 1) (pos + 1) else linesF r n f (pos + 1)
def itR_lines (t : List UInt8) : Option (List Gline_place) := if t.length < 4611686018427387904 then some (linesF t 1 0 0) else none
def place_find_B1 (a1 : Int) : Gline_place → Unit → Option (Ctl Gline_place Unit)
  | x9, _ =>
    if (x9.fn == a1) = true then
      some (.stop x9)
    else
      some (.next ())
def place_find (a0 : List UInt8) (a1 : Int) : Option (Gline_place × Bool) :=
  Option.bind (place_lines a0) fun (y3 : (List UInt8)) =>
  Option.bind (itR_lines y3) fun (rows12 : List (Gline_place)) =>
  Option.bind (runs (place_find_B1 a1) rows12 ()) fun (lr14 : Ctl Gline_place Unit) =>
  Ctl.elim lr14 (fun x11 =>
    some (x11, true)) (fun _ =>
    some (({ fn := 0, ffrom := 0, fto := 0 } : Gline_place), false))
def place_Back (a0 : List UInt8) (a1 : Int) (a2 : Int) : Option (Int × Bool) :=
  Option.bind (place_find a0 a1) fun (y3 : Gline_place × Bool) =>
  Option.bind (if (!y3.2) = true then
    some true
  else
    if (decide (a2 < 1)) = true then
      some true
    else
      some (decide ((w_i64 (a2 - 1)) > (w_i64 (y3.1.fto - y3.1.ffrom)))) : Option (Bool)) fun x7 =>
  if x7 = true then
    some (0, false)
  else
    some (w_i64 ((w_i64 (y3.1.ffrom + a2)) - 1), true)
def ref01_Back_L1 (a0 : List UInt8) (a1 : Int) (a2 : Int) : Nat → Int → Option (Ctl (Int × Bool) (Unit))
  | 0, _ => none
  | n + 1, x11 =>
    if (decide (x11 ≤ (a0.length : Int))) = true then
      Option.bind (ref01_Of a0 x11) fun (y26 : Int × Int) =>
      Option.bind (if (y26.1 == a1) = true then
        some (y26.2 == a2)
      else
        some false : Option (Bool)) fun x29 =>
      if x29 = true then
        some (.stop (x11, true))
      else
        ref01_Back_L1 a0 a1 a2 n (w_i64 (x11 + 1))
    else
      some (.next ())
def ref01_Back (a0 : List UInt8) (a1 : Int) (a2 : Int) : Option (Int × Bool) :=
  Option.bind (ref01_Back_L1 a0 a1 a2 (a0.length + 2) 0) fun lr34 =>
  Ctl.elim lr34 (fun v => some v) fun _ =>
  some (0, false)
def law01_PlaceOf (a0 : List UInt8) (a1 : Int) (a2 : A2 Int) : Option Bool :=
  if (decide ((a0.length : Int) > 300)) = true then
    Option.bind law01_awake fun (y2 : Bool) =>
    some y2
  else
    Option.bind (place_Of a0 a1) fun (y6 : Int × Int) =>
    Option.bind (ref01_Of a0 a1) fun (y10 : Int × Int) =>
    Option.bind (place_Back a0 a2.a0 a2.a1) fun (y14 : Int × Bool) =>
    Option.bind (ref01_Back a0 a2.a0 a2.a1) fun (y18 : Int × Bool) =>
    if (y6.1 == y10.1) = true then
      if (y6.2 == y10.2) = true then
        if (y14.1 == y18.1) = true then
          if (y14.2 == y18.2) = true then
            Option.bind law01_awake fun (y24 : Bool) =>
            some y24
          else
            some false
        else
          some false
      else
        some false
    else
      some false
end
end Go.Proofs.Ytcdgamjijdneeaa
