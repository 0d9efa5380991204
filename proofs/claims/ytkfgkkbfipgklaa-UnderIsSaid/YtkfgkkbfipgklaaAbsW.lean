/- The abstract layer that the proof stands on: no condition. -/
import Derived.Test.YtkfgkkbfipgklaaAbsV
import Derived.Lib.Bytealg
import Derived.Laws.Externs
/- Functions of the library that have no body. -/
namespace Go.Abs
open Go.RowKit
/-- Function `f` of a string and a byte gives the number `g`. -/
def ExtSB (P : Program) (f : Nat) (g : List UInt8 → Int → Int) : Prop := ∀ (l : List UInt8) (b : Int) (w : World), (callFunc f #[.string ⟨l.toArray⟩, .int .u8 b]).run P w = .ok (.value (.int .i64 (g l b))) w
def idxB (l : List UInt8) (b : Int) : Int := Lib.indexByte l b.toNat.toUInt8
def cntB (l : List UInt8) (b : Int) : Int := (Lib.countByte l b.toNat.toUInt8 : Nat)
theorem ext_idx {P : Program} {f : Nat} {fn : Func} (hf : P.funcs[f]? = some fn) (hname : (fn.name == "runtime.NumGoroutine") = false) (hb : fn.body.isNone = true) (hn : Extern.findNext fn = none) (he : Extern.find fn = some Extern.BytealgIndexByte.indexByte) : ExtSB P f idxB := by
  intro l b w
  rw [run_callFunc_extern hf hname hb hn he, Lib.run_indexByteString]
  rfl
theorem ext_cnt {P : Program} {f : Nat} {fn : Func} (hf : P.funcs[f]? = some fn) (hname : (fn.name == "runtime.NumGoroutine") = false) (hb : fn.body.isNone = true) (hn : Extern.findNext fn = none) (he : Extern.find fn = some Extern.BytealgCount.count) : ExtSB P f cntB := by
  intro l b w
  rw [run_callFunc_extern hf hname hb hn he, Lib.run_countString]
  rfl
section
variable {ro : Option Nat} {P : Program} {c : Cx} {s : St} {o : Oper} {d : Option Nat}
theorem op_extSB {fo x y : Operand} {ts : Array TypeId} {f : Nat} {l : List UInt8} {b : Int} {g : List UInt8 → Int → Int} (ho : o.op = .call { callee := .value fo, args := #[x, y], argTypes := ts }) (hf : ev s fo = some (.pv (.fn f []))) (hx : ev s x = some (.pv (.str l))) (hy : ev s y = some (.pv (.int .u8 b))) (hE : ExtSB P f g) (hd : o.dst = d) (hn : dOk s d = true) :
    OpOk ro P c o s (s.put d (some (.pv (.int .i64 (g l b))))) :=
  opOk_value hd hn (by rw [ho]; intro k h; cases h) fun a w O θ hs => by
    have hfv := ev_pv hs hf
    generalize hfa : a.eval fo = fv at hfv
    cases hfv with
    | fn _ _ us hn' hh =>
      have hus : us = #[] := Array.eq_empty_of_size_eq_zero (by simpa using hn')
      subst hus
      refine ⟨.int .i64 (g l b), ?_, .pv _ _ (.int _ _)⟩
      simp [execOp, ho, resolve, Deferred.ofValue, hfa, invoke, ev_str hs hx, ev_int hs hy, hE l b w]
end
end Go.Abs
