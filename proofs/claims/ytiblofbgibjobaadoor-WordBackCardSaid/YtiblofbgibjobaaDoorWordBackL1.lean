/- A part of the proof that the law WordBack gives true for every input. -/
import Derived.Test.YtiblofbgibjobaaDoorWordBackA1
import Derived.Test.YtiblofbgibjobaaDoorWordBackA2
import Derived.Test.YtiblofbgibjobaaDoorWordBackT
import Derived.Test.YtiblofbgibjobaaDoorWordBackD
/- The plain law. -/
namespace Go.Proofs.YtiblofbgibjobaaDoor
open Go.RowKit Go.Abs
/-! ### A row, turned round. -/
theorem set_mid {A B : List Int} {x v : Int} : (A ++ x :: B).set A.length v = A ++ v :: B := by
  rw [List.set_append_right _ _ (Nat.le_refl _)]; simp
theorem rev_L : ∀ (n : Nat) (M A B : List Int), M.length < 2 * n → (A ++ (M ++ B)).length ≤ 1000000 → slices_Reverse_byte_w_L1 n (A ++ (M ++ B)) (A.length : Int) ((A.length : Int) + (M.length : Int) - 1) = some (A ++ (M.reverse ++ B))
  | 0, M, A, B, h, _ => by omega
  | n + 1, M, A, B, h, hl => by
    rw [slices_Reverse_byte_w_L1]
    by_cases h2 : 2 ≤ M.length
    · obtain ⟨x, M', y, rfl⟩ : ∃ x M' y, M = x :: (M' ++ [y]) := by
        cases M with
        | nil => simp at h2
        | cons x T =>
          have hT : T ≠ [] := by intro e; subst e; simp at h2
          exact ⟨x, T.dropLast, T.getLast hT, by rw [List.dropLast_concat_getLast]⟩
      simp only [List.length_append, List.length_cons, List.length_nil] at h hl
      have e0 : A ++ (x :: (M' ++ [y]) ++ B) = A ++ x :: (M' ++ (y :: B)) := by simp
      have ej : ((A.length : Int) + ((x :: (M' ++ [y])).length : Int) - 1) = ((A ++ x :: M').length : Int) := by simp; omega
      have e1 : A ++ x :: (M' ++ (y :: B)) = (A ++ x :: M') ++ y :: B := by simp
      have ix : idx (A ++ x :: (M' ++ (y :: B))) (A.length : Int) = some x := by rw [idx_nat]; simp
      have iy : idx (A ++ x :: (M' ++ (y :: B))) ((A ++ x :: M').length : Int) = some y := by rw [e1, idx_nat, List.getElem?_append_right (Nat.le_refl _)]; simp
      have s1 : (A ++ x :: (M' ++ (y :: B))).set A.length y = A ++ y :: (M' ++ (y :: B)) := set_mid
      have i2 : idx (A ++ y :: (M' ++ (y :: B))) ((A ++ x :: M').length : Int) = some y := by
        rw [show A ++ y :: (M' ++ (y :: B)) = (A ++ y :: M') ++ y :: B by simp, show (A ++ x :: M').length = (A ++ y :: M').length by simp, idx_nat, List.getElem?_append_right (Nat.le_refl _)]; simp
      have s2 : (A ++ y :: (M' ++ (y :: B))).set (A ++ x :: M').length x = (A ++ [y]) ++ (M' ++ (x :: B)) := by
        rw [show A ++ y :: (M' ++ (y :: B)) = (A ++ y :: M') ++ y :: B by simp, show (A ++ x :: M').length = (A ++ y :: M').length by simp, set_mid]; simp
      rw [e0, ej, if_pos (by simp; omega), iy, obs, ix, obs, obs]
      simp only [Int.toNat_natCast]
      rw [s1, i2, obs, s2, w64 (by omega) (by omega), w64 (by simp; omega) (by simp; omega)]
      have ih := rev_L n M' (A ++ [y]) (x :: B) (by omega) (by simp; omega)
      rw [show ((A.length : Int) + 1) = (((A ++ [y]).length : Nat) : Int) by simp, show (((A ++ x :: M').length : Nat) : Int) - 1 = (((A ++ [y]).length : Nat) : Int) + (M'.length : Int) - 1 by simp; omega, ih]
      simp
    · rw [if_neg (by simp; omega)]
      match M, h2 with
      | [], _ => rfl
      | [_], _ => rfl
      | _ :: _ :: _, h2 => simp at h2
theorem reverse_eq {l : List Int} (h : l.length ≤ 100000) : slices_Reverse_byte_w l = some l.reverse := by
  unfold slices_Reverse_byte_w
  have := rev_L (l.length + 1) l [] [] (by omega) (by simp; omega)
  simp only [List.nil_append, List.append_nil, List.length_nil] at this
  rw [w64 (by omega) (by omega), show (l.length : Int) - 1 = ((0 : Nat) : Int) + (l.length : Int) - 1 by omega, show (0 : Int) = ((0 : Nat) : Int) from rfl, this, obs]

/-! ### The digits of a number. -/
theorem wu64 {n : Int} (h1 : 0 ≤ n) (h2 : n < 18446744073709551616) : w_u64 n = n := by
  show IntKind.u64.wrap n = n
  unfold IntKind.wrap
  simp only [IntKind.bits, IntKind.signed]
  first | omega | (simp; omega) | skip
theorem wu8 {n : Int} (h1 : 0 ≤ n) (h2 : n < 256) : w_u8 n = n := by
  show IntKind.u8.wrap n = n
  unfold IntKind.wrap
  simp only [IntKind.bits, IntKind.signed]
  first | omega | (simp; omega) | skip
def rst : Nat → Nat → List Int
  | 0, _ => []
  | f + 1, m => if 10 ≤ m then ((48 + m / 10 % 10 : Nat) : Int) :: rst f (m / 10) else []
theorem tdiv10 (m : Nat) : Int.tdiv (m : Int) 10 = ((m / 10 : Nat) : Int) := by rw [Int.tdiv_eq_ediv_of_nonneg (by omega)]; omega
theorem tmod10 (m : Nat) : Int.tmod (m : Int) 10 = ((m % 10 : Nat) : Int) := by rw [Int.tmod_eq_emod_of_nonneg (by omega)]; omega
theorem byteD {k : Nat} : w_u8 (w_u64 (48 + ((k % 10 : Nat) : Int))) = ((48 + k % 10 : Nat) : Int) := by
  have : k % 10 < 10 := Nat.mod_lt _ (by omega)
  rw [wu64 (by omega) (by omega), wu8 (by omega) (by omega)]; omega
theorem strL_append (a b : List Int) : strL (a ++ b) = strL a ++ strL b := by simp [strL]
theorem digits_L : ∀ (f m : Nat) (acc : List Int), m < 10 ^ (f + 1) → m < 18446744073709551616 → acc.length + f ≤ 1000 → word_Digits_L1 (f + 1) (m : Int) acc = some (acc ++ rst (f + 1) m)
  | f, m, acc, h, hm, ha => by
    rw [word_Digits_L1]
    by_cases h10 : 10 ≤ m
    · have hd : m / 10 < 10 ^ f := Nat.div_lt_of_lt_mul (by rw [Nat.pow_succ, Nat.mul_comm] at h; exact h)
      cases f with
      | zero => simp at hd; omega
      | succ f =>
        rw [if_pos (by simp; omega), tdiv10, wu64 (n := ((m / 10 : Nat) : Int)) (by omega) (by omega), tmod10, byteD, room_ok (by simp; omega), obs, digits_L f (m / 10) _ hd (by omega) (by simp; omega)]
        rw [show rst (f + 1 + 1) m = ((48 + m / 10 % 10 : Nat) : Int) :: rst (f + 1) (m / 10) by rw [rst, if_pos h10]]
        simp
    · rw [if_neg (by simp; omega), rst, if_neg h10]; simp
theorem rst_len : ∀ (f m : Nat), (rst f m).length ≤ f
  | 0, m => by simp [rst]
  | f + 1, m => by
    rw [rst]; split
    · have := rst_len f (m / 10); simp; omega
    · simp
def digS (a : Int) : List UInt8 := (if a < 0 then [45] else []) ++ (strL (rst 21 a.natAbs).reverse ++ strL [((48 + a.natAbs % 10 : Nat) : Int)])
theorem word_Digits_eq {a : Int} (h1 : -9223372036854775808 ≤ a) (h2 : a ≤ 9223372036854775807) : word_Digits a = some (digS a) := by
  have hu : (if (decide (a < 0)) = true then some (w_u64 (0 - (w_u64 a))) else some (w_u64 a) : Option Int) = some (a.natAbs : Int) := by
    by_cases h0 : a < 0
    · rw [if_pos (by simpa using h0)]
      congr 1
      have : w_u64 a = a + 18446744073709551616 := by
        show IntKind.u64.wrap a = _
        unfold IntKind.wrap
        simp only [IntKind.bits, IntKind.signed]
        first | omega | (simp; omega) | skip
      rw [this]
      show IntKind.u64.wrap _ = _
      unfold IntKind.wrap
      simp only [IntKind.bits, IntKind.signed]
      first | omega | (simp; omega) | skip
    · rw [if_neg (by simpa using h0), wu64 (by omega) (by omega)]
      congr 1; omega
  have hm : a.natAbs ≤ 9223372036854775808 := by omega
  have hl := rst_len 21 a.natAbs
  unfold word_Digits digS
  rw [hu, obs, tmod10, byteD, room_ok (by simp), obs, digits_L 20 a.natAbs _ (by omega) (by omega) (by simp), obs]
  by_cases h0 : a < 0
  · rw [if_pos (by simpa using h0), room_ok (by simp; omega), obs, obs, reverse_eq (by simp; omega), obs, if_pos h0]
    simp [strL]
  · rw [if_neg (by simpa using h0), obs, reverse_eq (by simp; omega), obs, if_neg h0]
    simp [strL]
/-! ### Letters, digits, numbers. -/
theorem fuel_len' (m : Nat) : (((m : Int) : Int) - (0)).toNat + 1 = m + 1 := by omega
def isD (b : UInt8) : Bool := decide (48 ≤ b.toNat ∧ b.toNat ≤ 57)
theorem digit_eq (b : UInt8) : word_Digit (b.toNat : Int) = some (isD b) ∧ ref02_Digit (b.toNat : Int) = some (isD b) := by
  have : ∀ k : Fin 256, word_Digit (k.val : Int) = some (decide (48 ≤ k.val ∧ k.val ≤ 57)) ∧ ref02_Digit (k.val : Int) = some (decide (48 ≤ k.val ∧ k.val ≤ 57)) := by decide +kernel
  exact this ⟨b.toNat, b.toNat_lt⟩
theorem and15 (b : UInt8) (h : isD b = true) : andI .u8 (b.toNat : Int) 15 = ((b.toNat - 48 : Nat) : Int) := by
  have : ∀ k : Fin 256, (48 ≤ k.val ∧ k.val ≤ 57) → andI .u8 (k.val : Int) 15 = ((k.val - 48 : Nat) : Int) := by decide +kernel
  exact this ⟨b.toNat, b.toNat_lt⟩ (of_decide_eq_true h)
/-- The number that digits say; none, where one is no digit. -/
def numS : List UInt8 → Nat → Option Nat
  | [], n => some n
  | b :: l, n => if isD b = true then numS l (10 * n + (b.toNat - 48)) else none
def numC : Option Nat → Ctl (Int × Bool) Int
  | some n => .next (n : Int)
  | none => .stop (0, false)
theorem numW_L {s : List UInt8} (hs : s.length ≤ 9) (u : Unit) : ∀ (n k m : Nat), n + k = s.length + 1 → k ≤ s.length → m < 10 ^ k → word_Number_L1 s u n (m : Int) (k : Int) = some (numC (numS (s.drop k) m))
  | 0, k, m, h, hk, _ => by omega
  | n + 1, k, m, h, hk, hm => by
    have hb : (bytesL s).length = s.length := by simp [bytesL]
    rw [word_Number_L1, hb]
    by_cases hlt : k < s.length
    · have hi : idx (bytesL s) (k : Int) = some (s[k].toNat : Int) := by rw [idx_nat]; simp [bytesL, hlt]
      have hp : 10 ^ k ≤ 10 ^ 8 := Nat.pow_le_pow_right (by omega) (by omega)
      rw [if_pos (by simpa using hlt), hi, obs, (digit_eq s[k]).1, obs, List.drop_eq_getElem_cons hlt]
      simp only [numS]
      by_cases hd : isD s[k] = true
      · have hr := of_decide_eq_true hd
        rw [if_neg (by simp [hd]), if_pos hd, and15 _ hd, w64 (n := 10 * (m : Int)) (by omega) (by omega), w64 (n := ((s[k].toNat - 48 : Nat) : Int)) (by omega) (by omega), w64 (by omega) (by omega), w64_succ hlt (by omega)]
        have := numW_L hs u n (k + 1) (10 * m + (s[k].toNat - 48)) (by omega) (by omega) (by rw [Nat.pow_succ]; omega)
        rw [← this]; congr 1
      · rw [if_pos (by simpa using hd), if_neg hd]; rfl
    · rw [if_neg (by simpa using hlt), List.drop_eq_nil_of_le (by omega)]; rfl
theorem rst_fuel : ∀ (f m : Nat), m < 10 ^ (f + 1) → rst f m = rst (f + 1) m
  | 0, m, h => by rw [rst, rst, if_neg (by simp at h; omega)]
  | f + 1, m, h => by
    rw [rst, rst]
    by_cases h10 : 10 ≤ m
    · rw [if_pos h10, if_pos h10, rst_fuel f (m / 10) (Nat.div_lt_of_lt_mul (by rw [Nat.pow_succ, Nat.mul_comm] at h; exact h))]
    · rw [if_neg h10, if_neg h10]
def D (n : Nat) : List Int := (rst 21 n).reverse ++ [((48 + n % 10 : Nat) : Int)]
theorem D_small {d : Nat} (h : d < 10) : D d = [((48 + d : Nat) : Int)] := by
  unfold D; rw [rst, if_neg (by omega), Nat.mod_eq_of_lt h]; rfl
theorem D_step {k d : Nat} (hk : 1 ≤ k) (hd : d < 10) (hk2 : k < 10 ^ 21) : D (10 * k + d) = D k ++ [((48 + d : Nat) : Int)] := by
  have e1 : (10 * k + d) / 10 = k := by omega
  have e2 : (10 * k + d) % 10 = d := by omega
  unfold D
  rw [show rst 21 (10 * k + d) = ((48 + k % 10 : Nat) : Int) :: rst 20 k by rw [rst, if_pos (by omega), e1], e2, rst_fuel 20 k hk2, List.reverse_cons]
theorem D_head : ∀ (n : Nat), 0 < n → n < 10 ^ 21 → ∃ (x : Nat) (t : List Int), D n = (x : Int) :: t ∧ 48 < x ∧ x ≤ 57 := by
  intro n
  induction n using Nat.strongRecOn with
  | _ n ih =>
    intro h0 h1
    by_cases h10 : n < 10
    · exact ⟨48 + n, [], D_small h10, by omega, by omega⟩
    · obtain ⟨x, t, h2, h3, h4⟩ := ih (n / 10) (by omega) (by omega) (by omega)
      have := D_step (k := n / 10) (d := n % 10) (by omega) (by omega) (by omega)
      rw [show 10 * (n / 10) + n % 10 = n by omega, h2] at this
      exact ⟨x, t ++ [((48 + n % 10 : Nat) : Int)], by rw [this]; rfl, h3, h4⟩
theorem strL_bytesL (s : List UInt8) : strL (bytesL s) = s := by
  unfold strL bytesL
  rw [List.map_map]
  conv => rhs; rw [← List.map_id s]
  apply List.map_congr_left
  intro b _
  simp
theorem digS_nat (n : Nat) : digS (n : Int) = strL (D n) := by
  unfold digS D
  rw [if_neg (by omega), strL_append, Int.natAbs_natCast]; rfl
/-- Digits that begin with no 0 come back. -/
theorem D_num : ∀ (l : List UInt8) (n r : Nat), 0 < n → numS l n = some r → n * 10 ^ l.length + 10 ^ l.length ≤ 10 ^ 20 → D r = D n ++ bytesL l
  | [], n, r, _, h, _ => by simp only [numS, Option.some.injEq] at h; subst h; simp [bytesL]
  | b :: l, n, r, h0, h, hb => by
    simp only [numS] at h
    by_cases hd : isD b = true
    · rw [if_pos hd] at h
      have hr := of_decide_eq_true hd
      rw [List.length_cons, Nat.pow_succ] at hb
      have hpos : 0 < 10 ^ l.length := Nat.pow_pos (by omega)
      have hmul : (10 * n + (b.toNat - 48)) * 10 ^ l.length + 10 ^ l.length ≤ n * (10 ^ l.length * 10) + 10 ^ l.length * 10 := by
        have h9 : (10 * n + (b.toNat - 48) + 1) * 10 ^ l.length ≤ (10 * n + 10) * 10 ^ l.length := Nat.mul_le_mul_right _ (by omega)
        have e1 : (10 * n + (b.toNat - 48) + 1) * 10 ^ l.length = (10 * n + (b.toNat - 48)) * 10 ^ l.length + 10 ^ l.length := Nat.succ_mul _ _
        have e2 : (10 * n + 10) * 10 ^ l.length = n * (10 ^ l.length * 10) + 10 ^ l.length * 10 := by rw [Nat.add_mul, Nat.mul_comm 10 n, Nat.mul_assoc, Nat.mul_comm 10 (10 ^ l.length)]
        omega
      have hn : n < 10 ^ 21 := by
        have : n * 1 ≤ n * (10 ^ l.length * 10) := Nat.mul_le_mul_left _ (by omega)
        omega
      rw [D_num l _ r (by omega) h (by omega), D_step h0 (by omega) hn]
      simp only [bytesL, List.map_cons, List.append_assoc, List.cons_append, List.nil_append]
      rw [show 48 + (b.toNat - 48) = b.toNat by omega]
    · rw [if_neg hd] at h; cases h
theorem numS_lt : ∀ (l : List UInt8) (n r : Nat), numS l n = some r → r + 1 ≤ (n + 1) * 10 ^ l.length
  | [], n, r, h => by simp only [numS, Option.some.injEq] at h; subst h; simp
  | b :: l, n, r, h => by
    simp only [numS] at h
    by_cases hd : isD b = true
    · rw [if_pos hd] at h
      have hr := of_decide_eq_true hd
      have ih := numS_lt l _ r h
      have h9 : (10 * n + (b.toNat - 48) + 1) * 10 ^ l.length ≤ (10 * (n + 1)) * 10 ^ l.length := Nat.mul_le_mul_right _ (by omega)
      have e2 : (10 * (n + 1)) * 10 ^ l.length = (n + 1) * 10 ^ (b :: l).length := by rw [List.length_cons, Nat.pow_succ, Nat.mul_comm 10 (n + 1), Nat.mul_assoc, Nat.mul_comm 10 (10 ^ l.length)]
      omega
    · rw [if_neg hd] at h; cases h
def numberS (s : List UInt8) : Int × Bool := if s.length = 0 ∨ 9 < s.length then (0, false) else if s.head? = some 48 ∧ 1 < s.length then (0, false) else match numS s 0 with | some r => ((r : Int), true) | none => (0, false)
theorem canon {s : List UInt8} {r : Nat} (h0 : s.length ≠ 0) (h9 : s.length ≤ 9) (h : numS s 0 = some r) : (digS (r : Int) == s) = !decide (s.head? = some 48 ∧ 1 < s.length) := by
  have hlt := numS_lt s 0 r h
  have hp : 10 ^ s.length ≤ 10 ^ 9 := Nat.pow_le_pow_right (by omega) h9
  rw [digS_nat, Bool.eq_iff_iff]
  match s, h0 with
  | b :: t, _ =>
    simp only [numS] at h
    by_cases hd : isD b = true
    case neg => rw [if_neg hd] at h; cases h
    rw [if_pos hd] at h
    have hr := of_decide_eq_true hd
    simp only [List.length_cons] at h9 hp hlt
    by_cases h48 : b = 48
    · subst h48
      by_cases ht : t = []
      · subst ht
        simp only [numS, Option.some.injEq] at h
        subst h
        simp [D_small, strL]
      · have hl : 1 < t.length + 1 := by have := List.length_pos_iff.2 ht; omega
        simp only [List.head?_cons, List.length_cons, hl, and_self, decide_true, Bool.not_true, Bool.false_eq_true, iff_false, beq_iff_eq]
        intro e
        by_cases hr0 : r = 0
        · subst hr0
          rw [D_small (by omega)] at e
          have := congrArg List.length e
          simp [strL] at this
          exact ht this
        · obtain ⟨x, t', h1, h2, h3⟩ := D_head r (by omega) (by omega)
          rw [h1] at e
          simp only [strL, List.map_cons, List.cons.injEq, Int.toNat_natCast] at e
          have := congrArg UInt8.toNat e.1
          simp at this
          omega
    · have hn : 0 < b.toNat - 48 := by
        rcases Nat.lt_or_ge 48 b.toNat with h1 | h1
        · omega
        · exact absurd (UInt8.toNat_inj.1 (show b.toNat = (48 : UInt8).toNat by have : (48 : UInt8).toNat = 48 := rfl; omega)) h48
      have hpt : 10 ^ t.length ≤ 10 ^ 8 := Nat.pow_le_pow_right (by omega) (by omega)
      have hle : (b.toNat - 48) * 10 ^ t.length ≤ 9 * 10 ^ 8 := Nat.mul_le_mul (by omega) hpt
      have := D_num t (10 * 0 + (b.toNat - 48)) r (by omega) h (by rw [Nat.mul_zero, Nat.zero_add]; omega)
      rw [this, D_small (by omega), show 48 + (10 * 0 + (b.toNat - 48)) = b.toNat by omega, show [((b.toNat : Nat) : Int)] ++ bytesL t = bytesL (b :: t) from rfl, strL_bytesL]
      simp [h48]
theorem word_Number_eq (s : List UInt8) : word_Number s = some (numberS s) := by
  unfold word_Number numberS
  by_cases h0 : s.length = 0
  · rw [List.length_eq_zero_iff] at h0; subst h0; rfl
  by_cases h9 : 9 < s.length
  · rw [if_neg (by simp; intro e; subst e; simp at h0), obs, if_pos (by simp; omega), if_pos (.inr h9)]
  · have hb : (bytesL s).length = s.length := by simp [bytesL]
    rw [if_neg (by simp; intro e; subst e; simp at h0), obs, if_neg (by simp; omega), room_ok (by omega), obs, hb, fuel_len', if_neg (by omega), show (0 : Int) = ((0 : Nat) : Int) from rfl, numW_L (by omega) () _ 0 0 (by omega) (by omega) (by simp), obs, List.drop_zero]
    cases hn : numS s 0 with
    | none =>
      show some ((0 : Int), false) = _
      split <;> rfl
    | some r =>
      simp only [numC, Ctl.elim]
      have hlt := numS_lt s 0 r hn
      have hp : 10 ^ s.length ≤ 10 ^ 9 := Nat.pow_le_pow_right (by omega) (by omega)
      rw [word_Digits_eq (by omega) (by omega), obs, canon h0 (by omega) hn]
      by_cases hc : s.head? = some 48 ∧ 1 < s.length
      · rw [if_pos (by simp [hc]), if_pos hc]
      · rw [if_neg (by simp [hc]), if_neg hc]
/-! ### The words of the language, and names. -/
def findS (s : List UInt8) : Int := match glob_0.findIdx? (fun y => y == s) with | some i => ((i : Nat) : Int) + 1 | none => 0
theorem findS_nn (s : List UInt8) : 0 ≤ findS s ∧ findS s ≤ 23 := by
  unfold findS
  split
  · rename_i i h
    have := (List.findIdx?_eq_some_iff_getElem.1 h).1
    have e : glob_0.length = 23 := rfl
    omega
  · omega
theorem word_Find_eq (s : List UInt8) : word_Find s = some (findS s) := by
  unfold word_Find word_is slices_IndexFunc_string
  rw [obs, findL (slices_IndexFunc_string_L1 glob_0 (fun z3 => word_is_1 z3 s)) (b := fun y => y == s) (by decide) (fun n x => by simp only [slices_IndexFunc_string_L1, word_is_1, obs]), obs, find_any, obs]
  have h := findS_nn s
  unfold findS at *
  cases hf : glob_0.findIdx? (fun y => y == s) with
  | none => rfl
  | some i => rw [hf] at h; simp only at h ⊢; rw [w64 (by omega) (by omega)]
def wordS (a : Int) : List UInt8 := if a < 1 then [] else (glob_0[(a - 1).toNat]?).getD []
theorem word_Word_eq {a : Int} (h1 : -9223372036854775808 ≤ a) (h2 : a ≤ 9223372036854775807) : word_Word a = some (wordS a) := by
  unfold word_Word wordS
  by_cases h : a < 1
  · simp [h]
  · by_cases h' : a > 23
    · have e : glob_0[(a - 1).toNat]? = none := List.getElem?_eq_none (show glob_0.length ≤ _ by have : glob_0.length = 23 := rfl; omega)
      simp only [h, h', decide_true, decide_false, Bool.false_eq_true, if_false, if_true, obs, e, Option.getD_none]
    · have e1 : w_i64 (a - 1) = (((a - 1).toNat : Nat) : Int) := by rw [w64 (by omega) (by omega)]; omega
      have hlt : (a - 1).toNat < glob_0.length := by have : glob_0.length = 23 := rfl; omega
      simp only [h, h', decide_false, Bool.false_eq_true, if_false, obs, e1, idx_lt hlt, List.getElem?_eq_getElem hlt, Option.getD_some]
/-! Names. -/
def isL (b : UInt8) : Bool := (word_Letter (b.toNat : Int)).getD false
theorem letter_some (a : Int) : word_Letter a = some ((word_Letter a).getD false) := by unfold word_Letter; split <;> rfl
theorem word_L (b : UInt8) : word_Letter (b.toNat : Int) = some (isL b) := letter_some _
def isC (b : UInt8) : Bool := isL b || isD b
def nameS (s : List UInt8) : Bool := match s with
  | [] => false
  | b :: t => decide (t.length < 20) && (isL b && ((b :: t).all isC && findS (b :: t) == 0))
theorem idx_bytes {s : List UInt8} {k : Nat} (h : k < s.length) : idx (bytesL s) (k : Int) = some (s[k].toNat : Int) := by
  have hb : k < (bytesL s).length := by simp [bytesL]; exact h
  rw [idx_lt hb]; simp [bytesL]
theorem wName_L {s : List UInt8} (hs : s.length ≤ 1000) : ∀ (n k : Nat), n + k = s.length + 1 → k ≤ s.length → word_Name_L1 s n (k : Int) = some (if (s.drop k).all isC = true then .next () else .stop false)
  | 0, k, h, hk => by omega
  | n + 1, k, h, hk => by
    have hb : (bytesL s).length = s.length := by simp [bytesL]
    simp only [word_Name_L1, hb]
    by_cases hlt : k < s.length
    · rw [if_pos (by simpa using hlt), idx_bytes hlt, obs, word_L, obs, (digit_eq s[k]).1, List.drop_eq_getElem_cons hlt, w64_succ hlt (by omega), wName_L hs n (k + 1) (by omega) (by omega)]
      simp only [List.all_cons, isC]
      rcases Bool.eq_false_or_eq_true (isL s[k]) with h1 | h1 <;> rcases Bool.eq_false_or_eq_true (isD s[k]) with h2 | h2 <;> simp [obs, h1, h2]
    · rw [if_neg (by simpa using hlt), List.drop_eq_nil_of_le (by omega)]; rfl
theorem word_Name_eq (s : List UInt8) : word_Name s = some (nameS s) := by
  unfold word_Name nameS
  match s with
  | [] => rfl
  | b :: t =>
    have hi : idx (b :: t) 0 = some b := rfl
    have hb : (bytesL (b :: t)).length = (b :: t).length := by simp [bytesL]
    by_cases h20 : t.length < 20
    · have e0 : ((b :: t) == ([] : List UInt8)) = false := rfl
      have e1 : decide (((b :: t).length : Int) > 20) = false := by simp; omega
      rw [e0, e1, hi, if_neg (by simp), if_neg (by simp), obs, word_L, obs, obs]
      cases hL : isL b with
      | false => simp [hL]
      | true =>
        rw [if_neg (by simp), room_ok (by simp; omega), obs, hb, fuel_len', show (0 : Int) = ((0 : Nat) : Int) from rfl, wName_L (by simp; omega) _ 0 (by omega) (by omega), obs, List.drop_zero]
        cases hA : (b :: t).all isC with
        | false => rw [if_neg (by simp)]; simp [Ctl.elim, hL, hA]
        | true => rw [if_pos rfl]; simp only [Ctl.elim, word_Find_eq, obs]; simp [h20, hL, hA]
    · have e0 : ((b :: t) == ([] : List UInt8)) = false := rfl
      have e1 : decide (((b :: t).length : Int) > 20) = true := by simp; omega
      rw [e0, e1]
      simp [h20]
theorem law02_awake_eq : law02_awake = some true := by
  unfold law02_awake
  rw [word_Number_eq, obs, word_Find_eq, obs]
  have e1 : findS [116, 104, 105, 115] = 18 := by decide
  rw [e1, if_pos (by decide), word_Name_eq, obs, word_Name_eq]
  have e2 : nameS [116, 104, 105, 115] = false := by
    simp [nameS, e1]
  have e3 : nameS [116, 104, 97, 116] = true := by decide +kernel
  rw [e2, e3]
  simp only [Bool.not_false, if_true, obs]
  rfl

theorem numS_app : ∀ (l : List UInt8) (b : UInt8) (n : Nat), isD b = true → numS (l ++ [b]) n = (numS l n).map fun r => 10 * r + (b.toNat - 48)
  | [], b, n, h => by simp [numS, h]
  | c :: l, b, n, h => by
    simp only [List.cons_append, numS]
    by_cases hc : isD c = true
    · rw [if_pos hc, if_pos hc]; exact numS_app l b _ h
    · rw [if_neg hc, if_neg hc]; rfl
theorem isD_of {d : Nat} (h : d < 10) : isD (UInt8.ofNat (48 + d)) = true ∧ (UInt8.ofNat (48 + d)).toNat - 48 = d := by
  have e : (UInt8.ofNat (48 + d)).toNat = 48 + d := by rw [UInt8.toNat_ofNat']; omega
  refine ⟨?_, by rw [e]; omega⟩
  unfold isD
  rw [e]
  simp; omega
theorem strL_one (d : Nat) : strL [((48 + d : Nat) : Int)] = [UInt8.ofNat (48 + d)] := rfl
theorem numS_D : ∀ (n : Nat), n < 10 ^ 20 → numS (strL (D n)) 0 = some n := by
  intro n
  induction n using Nat.strongRecOn with
  | _ n ih =>
    intro hn
    by_cases h : n < 10
    · rw [D_small h, strL_one]
      obtain ⟨h1, h2⟩ := isD_of h
      simp only [numS]; rw [if_pos h1, h2]; simp
    · have e : n = 10 * (n / 10) + n % 10 := by omega
      have hd : n % 10 < 10 := by omega
      rw [e, D_step (by omega) hd (by omega), strL_append, strL_one]
      obtain ⟨h1, h2⟩ := isD_of hd
      rw [numS_app _ _ _ h1, h2, ih (n / 10) (by omega) (by omega)]
      rfl
theorem D_len : ∀ (k n : Nat), n < 10 ^ (k + 1) → k ≤ 19 → (D n).length ≤ k + 1
  | 0, n, h, _ => by rw [D_small (by simpa using h)]; simp
  | k + 1, n, h, hk => by
    by_cases h10 : n < 10
    · rw [D_small h10]; simp
    · have e : n = 10 * (n / 10) + n % 10 := by omega
      have hlt : n / 10 < 10 ^ (k + 1) := by
        rw [Nat.pow_succ] at h
        omega
      have h21 : n / 10 < 10 ^ 21 := Nat.lt_of_lt_of_le hlt (Nat.pow_le_pow_right (by omega) (by omega))
      rw [e, D_step (by omega) (by omega) h21, List.length_append]
      have := D_len k (n / 10) hlt (by omega)
      simp; omega
theorem strL_len (l : List Int) : (strL l).length = l.length := by simp [strL]
theorem numberS_digS {n : Nat} (h : n < 1000000000) : numberS (digS (n : Int)) = ((n : Int), true) := by
  rw [digS_nat]
  have hl := D_len 8 n (by omega) (by omega)
  have hp : 0 < (D n).length := by unfold D; simp
  unfold numberS
  rw [strL_len, if_neg (by omega)]
  have hh : ¬ ((strL (D n)).head? = some 48 ∧ 1 < (D n).length) := by
    rintro ⟨h1, h2⟩
    by_cases h0 : n = 0
    · subst h0; rw [D_small (by omega)] at h2; simp at h2
    · obtain ⟨x, t, e1, e2, e3⟩ := D_head n (by omega) (by omega)
      rw [e1] at h1
      simp only [strL, List.map_cons, List.head?_cons, Option.some.injEq, Int.toNat_natCast] at h1
      have := congrArg UInt8.toNat h1
      simp at this
      omega
  rw [if_neg hh, numS_D n (by omega)]
theorem numberS_back (s : List UInt8) : (numberS s).2 = false ∧ (numberS s).1 = 0 ∨ (numberS s).2 = true ∧ digS (numberS s).1 = s ∧ 0 ≤ (numberS s).1 ∧ (numberS s).1 ≤ 999999999 := by
  unfold numberS
  by_cases h0 : s.length = 0 ∨ 9 < s.length
  · rw [if_pos h0]; exact .inl ⟨rfl, rfl⟩
  rw [if_neg h0]
  by_cases hc : s.head? = some 48 ∧ 1 < s.length
  · rw [if_pos hc]; exact .inl ⟨rfl, rfl⟩
  rw [if_neg hc]
  cases hn : numS s 0 with
  | none => exact .inl ⟨rfl, rfl⟩
  | some r =>
    have hlt := numS_lt s 0 r hn
    have hp : 10 ^ s.length ≤ 10 ^ 9 := Nat.pow_le_pow_right (by omega) (by omega)
    have := canon (by omega) (by omega) hn
    refine .inr ⟨rfl, ?_, by simp, by simp only; omega⟩
    rw [decide_eq_false hc] at this
    simpa using this
theorem words_back : ∀ k : Nat, k < 23 → findS ((glob_0[k]?).getD []) = (k : Int) + 1 := by decide +kernel
theorem find_back {s : List UInt8} (h : findS s ≠ 0) : wordS (findS s) = s := by
  unfold findS at *
  cases hf : glob_0.findIdx? (fun y => y == s) with
  | none => rw [hf] at h; exact absurd rfl h
  | some i =>
    obtain ⟨h1, h2, _⟩ := List.findIdx?_eq_some_iff_getElem.1 hf
    simp only
    unfold wordS
    rw [if_neg (by omega), show ((i : Int) + 1 - 1).toNat = i by omega, List.getElem?_eq_getElem h1]
    simpa using h2
theorem nameS_of_find {s : List UInt8} (h : findS s ≠ 0) : nameS s = false := by
  unfold nameS
  match s with
  | [] => rfl
  | b :: t => simp [h]
theorem law02_WordBack_true {a0 : Int} {a1 : List UInt8} {a2 : Int} (h0 : u32ok a0) (_ : strok a1) (h2 : u8ok a2) : law02_WordBack a0 a1 a2 = some true := by
  unfold law02_WordBack
  obtain ⟨n, rfl⟩ : ∃ n : Nat, a0 = (n : Int) := ⟨a0.toNat, by have := h0.1; omega⟩
  obtain ⟨k, rfl⟩ : ∃ k : Nat, a2 = (k : Int) := ⟨a2.toNat, by have := h2.1; omega⟩
  have hk := h2.2
  have hm : w_i64 (Int.tmod (n : Int) 1000000000) = ((n % 1000000000 : Nat) : Int) := by
    rw [Int.tmod_eq_emod_of_nonneg (by omega), w64 (by omega) (by omega)]; omega
  have hlt : n % 1000000000 < 1000000000 := Nat.mod_lt _ (by omega)
  have hk1 : w_i64 ((w_i64 (k : Int)) + 1) = (k : Int) + 1 := by rw [w64 (n := (k : Int)) (by omega) (by omega), w64 (by omega) (by omega)]
  rw [law02_awake_eq, obs]
  by_cases hg : decide ((a1.length : Int) > 100) = true
  · rw [if_pos hg]
  rw [if_neg hg, hm, hk1, word_Digits_eq (by omega) (by omega), obs, word_Number_eq, obs, word_Number_eq, obs, numberS_digS hlt, word_Word_eq (by omega) (by omega), obs]
  have hx : (if (numberS a1).2 = true then
      Option.bind (word_Digits (numberS a1).1) fun (y21 : (List UInt8)) =>
      if (!(y21 == a1)) = true then some true
      else if (decide ((numberS a1).1 < 0)) = true then some true
      else if (decide ((numberS a1).1 > 999999999)) = true then some true
      else if (!(numberS a1).2) = true then some ((numberS a1).1 != 0) else some false
    else if (!(numberS a1).2) = true then some ((numberS a1).1 != 0) else some false : Option Bool) = some false := by
    rcases numberS_back a1 with ⟨e1, e2⟩ | ⟨e1, e2, e3, e4⟩
    · simp [e1, e2]
    · rw [e1, word_Digits_eq (by omega) (by omega), e2]
      have g1 : ¬ (numberS a1).1 < 0 := by omega
      have g2 : ¬ (numberS a1).1 > 999999999 := by omega
      simp [obs, g1, g2]
  rw [hx, obs]
  simp only [Bool.false_eq_true, if_false, if_true, beq_self_eq_true]
  have hf1 : (Option.bind (word_Find a1) fun (y35 : Int) => if (y35 == 0) = true then Option.bind (some true) fun (y38 : Bool) => some y38 else
      Option.bind (word_Find a1) fun (y40 : Int) => Option.bind (word_Word y40) fun (y42 : (List UInt8)) => if (y42 == a1) = true then Option.bind (some true) fun (y45 : Bool) => some y45 else some false) = some true := by
    have hn := findS_nn a1
    rw [word_Find_eq, obs]
    by_cases hz : findS a1 = 0
    · simp [hz]
    · rw [if_neg (by simpa using hz), obs, word_Word_eq (by omega) (by omega), obs, find_back hz]
      simp
  by_cases hw : wordS ((k : Int) + 1) = []
  · rw [hw, if_pos (by rfl)]
    exact hf1
  · rw [if_neg (by simpa using hw), word_Find_eq, obs]
    have hk23 : k < 23 := by
      rcases Nat.lt_or_ge k 23 with h | h
      · exact h
      · refine absurd ?_ hw
        unfold wordS
        rw [if_neg (by omega), show ((k : Int) + 1 - 1).toNat = k by omega, List.getElem?_eq_none (by have : glob_0.length = 23 := rfl; omega)]; rfl
    have hfk : findS (wordS ((k : Int) + 1)) = (k : Int) + 1 := by
      have := words_back k hk23
      unfold wordS
      rw [if_neg (by omega), show ((k : Int) + 1 - 1).toNat = k by omega]
      exact this
    rw [hfk, word_Name_eq, nameS_of_find (by omega)]
    simp only [beq_self_eq_true, if_true, obs, Bool.not_false]
    exact hf1


end Go.Proofs.YtiblofbgibjobaaDoor
