/- The abstract layer that the proof stands on: no condition. -/
import Derived.Test.YtkfgkkbfipgklaaAbsY
/- Functions as values, with what they compute. -/
namespace Go.Abs
open Go.RowKit
/-- A function value of parameters `A` (as `ea` reads them) and a result `R`: its code, what it captures, the plain function that it computes. -/
structure Clo (P : Program) (A R : Type) (ea : A → List PV) (er : R → List Res) where
  f : Nat
  c : List PV
  q : A → Option R
  b : callB P f = true
  h : ∀ (a : A) (r : R), q a = some r → Fn P f (ea a ++ c) (er r)
end Go.Abs
