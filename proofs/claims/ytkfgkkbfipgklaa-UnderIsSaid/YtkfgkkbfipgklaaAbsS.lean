/- The abstract layer that the proof stands on: no condition. -/
import Derived.Test.YtkfgkkbfipgklaaAbsP
/- Plain helpers: indices, ranges, rounds. -/
namespace Go.Abs
theorem w64 {n : Int} (h1 : -9223372036854775808 ≤ n) (h2 : n ≤ 9223372036854775807) : w_i64 n = n := by
  show IntKind.i64.wrap n = n
  unfold IntKind.wrap
  simp only [IntKind.bits, IntKind.signed]
  first | omega | (simp; omega) | skip
theorem idx_nat {α : Type} {l : List α} {k : Nat} : idx l (k : Int) = l[k]? := by simp [idx]
theorem idx_lt {α : Type} {l : List α} {k : Nat} (h : k < l.length) : idx l (k : Int) = some l[k] := by rw [idx_nat]; exact List.getElem?_eq_getElem h
theorem idx_neg {α : Type} {l : List α} {n : Int} (h : n < 0) : idx l n = none := by unfold idx; rw [if_neg (by omega)]
theorem idx_ge {α : Type} {l : List α} {n : Int} (h : (l.length : Int) ≤ n) : idx l n = none := by
  unfold idx; split
  · exact List.getElem?_eq_none (by omega)
  · rfl
theorem idx_in {α : Type} {l : List α} {n : Int} (h0 : 0 ≤ n) (h : n < l.length) : idx l n = some (l[n.toNat]'(by omega)) := by
  unfold idx; rw [if_pos h0]; exact List.getElem?_eq_getElem _
theorem w64_succ {k m : Nat} (h : k < m) (hm : m ≤ 9223372036854775807) : w_i64 ((k : Int) + 1) = ((k + 1 : Nat) : Int) := by rw [w64 (by omega) (by omega)]; omega
theorem room_ok {n b : Int} (h : n * b ≤ 140737488355328) : room n b = some () := by unfold room; rw [if_pos h]
theorem mkOk_ok {n m b : Int} (h0 : 0 ≤ n) (h1 : n ≤ m) (h : m * b ≤ 140737488355328) : mkOk n m b = some () := by unfold mkOk; rw [if_pos ⟨h0, h1, h⟩]
end Go.Abs
namespace Go.Abs
/-- As `Option.bind_some`; simp takes it for an equation that is to be rewritten by. -/
theorem obs {α β : Type} (a : α) (f : α → Option β) : Option.bind (some a) f = f a := by rw [Option.bind_some]
end Go.Abs
