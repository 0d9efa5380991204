/- A part of the proof that the law EventText gives true for every input. -/
import Derived.Test.YtccladleehbmhaaDoorEventTextA2
import Derived.Test.YtccladleehbmhaaDoorEventTextA3
import Derived.Test.YtccladleehbmhaaDoorEventTextT
import Derived.Test.YtccladleehbmhaaDoorEventTextD
/- The plain law. -/
namespace Go.Proofs.YtccladleehbmhaaDoor
open Go.RowKit Go.Abs
def jn (c : UInt8) : List (List UInt8) → List UInt8
  | [] => []
  | [w] => w
  | w :: v :: ws => w ++ c :: jn c (v :: ws)
theorem jn_cons (c : UInt8) (w : List UInt8) {l : List (List UInt8)} (h : l ≠ []) : jn c (w :: l) = w ++ c :: jn c l := by
  cases l with
  | nil => exact absurd rfl h
  | cons v ws => rfl
/-! ### A row, turned round. -/
theorem set_mid {A B : List Int} {x v : Int} : (A ++ x :: B).set A.length v = A ++ v :: B := by
  rw [List.set_append_right _ _ (Nat.le_refl _)]; simp
theorem rev_L : ∀ (n : Nat) (M A B : List Int), M.length < 2 * n → (A ++ (M ++ B)).length ≤ 1000000 → slices_Reverse_byte_w_L1 n (A ++ (M ++ B)) (A.length : Int) ((A.length : Int) + (M.length : Int) - 1) = some (A ++ (M.reverse ++ B))
  | 0, M, A, B, h, _ => by omega
  | n + 1, M, A, B, h, hl => by
    rw [slices_Reverse_byte_w_L1]
    by_cases h2 : 2 ≤ M.length
    · obtain ⟨x, M', y, rfl⟩ : ∃ x M' y, M = x :: (M' ++ [y]) := by
        cases M with
        | nil => simp at h2
        | cons x T =>
          have hT : T ≠ [] := by intro e; subst e; simp at h2
          exact ⟨x, T.dropLast, T.getLast hT, by rw [List.dropLast_concat_getLast]⟩
      simp only [List.length_append, List.length_cons, List.length_nil] at h hl
      have e0 : A ++ (x :: (M' ++ [y]) ++ B) = A ++ x :: (M' ++ (y :: B)) := by simp
      have ej : ((A.length : Int) + ((x :: (M' ++ [y])).length : Int) - 1) = ((A ++ x :: M').length : Int) := by simp; omega
      have e1 : A ++ x :: (M' ++ (y :: B)) = (A ++ x :: M') ++ y :: B := by simp
      have ix : idx (A ++ x :: (M' ++ (y :: B))) (A.length : Int) = some x := by rw [idx_nat]; simp
      have iy : idx (A ++ x :: (M' ++ (y :: B))) ((A ++ x :: M').length : Int) = some y := by rw [e1, idx_nat, List.getElem?_append_right (Nat.le_refl _)]; simp
      have s1 : (A ++ x :: (M' ++ (y :: B))).set A.length y = A ++ y :: (M' ++ (y :: B)) := set_mid
      have i2 : idx (A ++ y :: (M' ++ (y :: B))) ((A ++ x :: M').length : Int) = some y := by
        rw [show A ++ y :: (M' ++ (y :: B)) = (A ++ y :: M') ++ y :: B by simp, show (A ++ x :: M').length = (A ++ y :: M').length by simp, idx_nat, List.getElem?_append_right (Nat.le_refl _)]; simp
      have s2 : (A ++ y :: (M' ++ (y :: B))).set (A ++ x :: M').length x = (A ++ [y]) ++ (M' ++ (x :: B)) := by
        rw [show A ++ y :: (M' ++ (y :: B)) = (A ++ y :: M') ++ y :: B by simp, show (A ++ x :: M').length = (A ++ y :: M').length by simp, set_mid]; simp
      rw [e0, ej, if_pos (by simp; omega), iy, obs, ix, obs, obs]
      simp only [Int.toNat_natCast]
      rw [s1, i2, obs, s2, w64 (by omega) (by omega), w64 (by simp; omega) (by simp; omega)]
      have ih := rev_L n M' (A ++ [y]) (x :: B) (by omega) (by simp; omega)
      rw [show ((A.length : Int) + 1) = (((A ++ [y]).length : Nat) : Int) by simp, show (((A ++ x :: M').length : Nat) : Int) - 1 = (((A ++ [y]).length : Nat) : Int) + (M'.length : Int) - 1 by simp; omega, ih]
      simp
    · rw [if_neg (by simp; omega)]
      match M, h2 with
      | [], _ => rfl
      | [_], _ => rfl
      | _ :: _ :: _, h2 => simp at h2
theorem reverse_eq {l : List Int} (h : l.length ≤ 100000) : slices_Reverse_byte_w l = some l.reverse := by
  unfold slices_Reverse_byte_w
  have := rev_L (l.length + 1) l [] [] (by omega) (by simp; omega)
  simp only [List.nil_append, List.append_nil, List.length_nil] at this
  rw [w64 (by omega) (by omega), show (l.length : Int) - 1 = ((0 : Nat) : Int) + (l.length : Int) - 1 by omega, show (0 : Int) = ((0 : Nat) : Int) from rfl, this, obs]

/-! ### The digits of a number. -/
theorem wu64 {n : Int} (h1 : 0 ≤ n) (h2 : n < 18446744073709551616) : w_u64 n = n := by
  show IntKind.u64.wrap n = n
  unfold IntKind.wrap
  simp only [IntKind.bits, IntKind.signed]
  first | omega | (simp; omega) | skip
theorem wu8 {n : Int} (h1 : 0 ≤ n) (h2 : n < 256) : w_u8 n = n := by
  show IntKind.u8.wrap n = n
  unfold IntKind.wrap
  simp only [IntKind.bits, IntKind.signed]
  first | omega | (simp; omega) | skip
def rst : Nat → Nat → List Int
  | 0, _ => []
  | f + 1, m => if 10 ≤ m then ((48 + m / 10 % 10 : Nat) : Int) :: rst f (m / 10) else []
theorem tdiv10 (m : Nat) : Int.tdiv (m : Int) 10 = ((m / 10 : Nat) : Int) := by rw [Int.tdiv_eq_ediv_of_nonneg (by omega)]; omega
theorem tmod10 (m : Nat) : Int.tmod (m : Int) 10 = ((m % 10 : Nat) : Int) := by rw [Int.tmod_eq_emod_of_nonneg (by omega)]; omega
theorem ntdiv10 (m : Nat) : Int.tdiv (-(m : Int)) 10 = -((m / 10 : Nat) : Int) := by rw [Int.neg_tdiv, tdiv10]
theorem ntmod10 (m : Nat) : Int.tmod (-(m : Int)) 10 = -((m % 10 : Nat) : Int) := by rw [Int.neg_tmod, tmod10]
theorem byteD {k : Nat} : w_u8 (w_u64 (48 + ((k % 10 : Nat) : Int))) = ((48 + k % 10 : Nat) : Int) := by
  have : k % 10 < 10 := Nat.mod_lt _ (by omega)
  rw [wu64 (by omega) (by omega), wu8 (by omega) (by omega)]; omega
theorem byteN {k : Nat} : w_u8 (w_i64 (48 - -((k % 10 : Nat) : Int))) = ((48 + k % 10 : Nat) : Int) := by
  have : k % 10 < 10 := Nat.mod_lt _ (by omega)
  rw [w64 (by omega) (by omega), wu8 (by omega) (by omega)]; omega
theorem strL_append (a b : List Int) : strL (a ++ b) = strL a ++ strL b := by simp [strL]
theorem digits_L : ∀ (f m : Nat) (acc : List Int), m < 10 ^ (f + 1) → m < 18446744073709551616 → acc.length + f ≤ 1000 → word_Digits_L1 (f + 1) (m : Int) acc = some (acc ++ rst (f + 1) m)
  | f, m, acc, h, hm, ha => by
    rw [word_Digits_L1]
    by_cases h10 : 10 ≤ m
    · have hd : m / 10 < 10 ^ f := Nat.div_lt_of_lt_mul (by rw [Nat.pow_succ, Nat.mul_comm] at h; exact h)
      cases f with
      | zero => simp at hd; omega
      | succ f =>
        rw [if_pos (by simp; omega), tdiv10, wu64 (n := ((m / 10 : Nat) : Int)) (by omega) (by omega), tmod10, byteD, room_ok (by simp; omega), obs, digits_L f (m / 10) _ hd (by omega) (by simp; omega)]
        rw [show rst (f + 1 + 1) m = ((48 + m / 10 % 10 : Nat) : Int) :: rst (f + 1) (m / 10) by rw [rst, if_pos h10]]
        simp
    · rw [if_neg (by simp; omega), rst, if_neg h10]; simp
theorem refDigits_L : ∀ (f m : Nat) (s : List UInt8), m < 10 ^ (f + 1) → m ≤ 9223372036854775808 → s.length + f ≤ 1000 → ref02_Digits_L1 (f + 1) (-(m : Int)) s = some (strL (rst (f + 1) m).reverse ++ s)
  | f, m, s, h, hm, ha => by
    rw [ref02_Digits_L1]
    by_cases h10 : 10 ≤ m
    · have hd : m / 10 < 10 ^ f := Nat.div_lt_of_lt_mul (by rw [Nat.pow_succ, Nat.mul_comm] at h; exact h)
      cases f with
      | zero => simp at hd; omega
      | succ f =>
        rw [if_pos (by simp; omega), ntdiv10, w64 (n := -((m / 10 : Nat) : Int)) (by omega) (by omega), ntmod10, byteN, room_ok (by simp [strL]; omega), obs, refDigits_L f (m / 10) _ hd (by omega) (by simp [strL]; omega)]
        rw [show rst (f + 1 + 1) m = ((48 + m / 10 % 10 : Nat) : Int) :: rst (f + 1) (m / 10) by rw [rst, if_pos h10]]
        rw [List.reverse_cons, strL_append, List.append_assoc]
    · rw [if_neg (by simp; omega), rst, if_neg h10]; simp [strL]
theorem rst_len : ∀ (f m : Nat), (rst f m).length ≤ f
  | 0, m => by simp [rst]
  | f + 1, m => by
    rw [rst]; split
    · have := rst_len f (m / 10); simp; omega
    · simp
def digS (a : Int) : List UInt8 := (if a < 0 then [45] else []) ++ (strL (rst 21 a.natAbs).reverse ++ strL [((48 + a.natAbs % 10 : Nat) : Int)])
theorem word_Digits_eq {a : Int} (h1 : -9223372036854775808 ≤ a) (h2 : a ≤ 9223372036854775807) : word_Digits a = some (digS a) := by
  have hu : (if (decide (a < 0)) = true then some (w_u64 (0 - (w_u64 a))) else some (w_u64 a) : Option Int) = some (a.natAbs : Int) := by
    by_cases h0 : a < 0
    · rw [if_pos (by simpa using h0)]
      congr 1
      have : w_u64 a = a + 18446744073709551616 := by
        show IntKind.u64.wrap a = _
        unfold IntKind.wrap
        simp only [IntKind.bits, IntKind.signed]
        first | omega | (simp; omega) | skip
      rw [this]
      show IntKind.u64.wrap _ = _
      unfold IntKind.wrap
      simp only [IntKind.bits, IntKind.signed]
      first | omega | (simp; omega) | skip
    · rw [if_neg (by simpa using h0), wu64 (by omega) (by omega)]
      congr 1; omega
  have hm : a.natAbs ≤ 9223372036854775808 := by omega
  have hl := rst_len 21 a.natAbs
  unfold word_Digits digS
  rw [hu, obs, tmod10, byteD, room_ok (by simp), obs, digits_L 20 a.natAbs _ (by omega) (by omega) (by simp), obs]
  by_cases h0 : a < 0
  · rw [if_pos (by simpa using h0), room_ok (by simp; omega), obs, obs, reverse_eq (by simp; omega), obs, if_pos h0]
    simp [strL]
  · rw [if_neg (by simpa using h0), obs, reverse_eq (by simp; omega), obs, if_neg h0]
    simp [strL]
theorem ref02_Digits_eq {a : Int} (h1 : -9223372036854775808 ≤ a) (h2 : a ≤ 9223372036854775807) : ref02_Digits a = some (digS a) := by
  have hu : (if (decide (a < 0)) = true then some (a, [45]) else some (w_i64 (0 - a), []) : Option (Int × (List UInt8))) = some (-(a.natAbs : Int), if a < 0 then [45] else []) := by
    by_cases h0 : a < 0
    · rw [if_pos (by simpa using h0), if_pos h0]; congr 2; omega
    · rw [if_neg (by simpa using h0), if_neg h0, w64 (by omega) (by omega)]; congr 2; omega
  have hm : a.natAbs ≤ 9223372036854775808 := by omega
  have hl := rst_len 21 a.natAbs
  unfold ref02_Digits digS
  rw [hu, obs]
  dsimp only
  rw [ntmod10, byteN, refDigits_L 20 a.natAbs _ (by omega) (by omega) (by simp [strL]), obs, room_ok (by split <;> simp [strL] <;> omega), obs]

/-! ### Letters, digits, numbers. -/
theorem fuel_len' (m : Nat) : (((m : Int) : Int) - (0)).toNat + 1 = m + 1 := by omega
theorem letter_eq (b : UInt8) : word_Letter (b.toNat : Int) = ref02_Letter (b.toNat : Int) := by
  have : ∀ k : Fin 256, word_Letter (k.val : Int) = ref02_Letter (k.val : Int) := by decide +kernel
  exact this ⟨b.toNat, b.toNat_lt⟩
def isD (b : UInt8) : Bool := decide (48 ≤ b.toNat ∧ b.toNat ≤ 57)
theorem digit_eq (b : UInt8) : word_Digit (b.toNat : Int) = some (isD b) ∧ ref02_Digit (b.toNat : Int) = some (isD b) := by
  have : ∀ k : Fin 256, word_Digit (k.val : Int) = some (decide (48 ≤ k.val ∧ k.val ≤ 57)) ∧ ref02_Digit (k.val : Int) = some (decide (48 ≤ k.val ∧ k.val ≤ 57)) := by decide +kernel
  exact this ⟨b.toNat, b.toNat_lt⟩
/-! ### The words of the language, and names. -/
def findS (s : List UInt8) : Int := match glob_2.findIdx? (fun y => y == s) with | some i => ((i : Nat) : Int) + 1 | none => 0
theorem findS_nn (s : List UInt8) : 0 ≤ findS s ∧ findS s ≤ 23 := by
  unfold findS
  split
  · rename_i i h
    have := (List.findIdx?_eq_some_iff_getElem.1 h).1
    have e : glob_2.length = 23 := rfl
    omega
  · omega
theorem word_Find_eq (s : List UInt8) : word_Find s = some (findS s) := by
  unfold word_Find word_is slices_IndexFunc_string
  rw [obs, findL (slices_IndexFunc_string_L1 glob_2 (fun z3 => word_is_1 z3 s)) (b := fun y => y == s) (by decide) (fun n x => by simp only [slices_IndexFunc_string_L1, word_is_1, obs]), obs, find_any, obs]
  have h := findS_nn s
  unfold findS at *
  cases hf : glob_2.findIdx? (fun y => y == s) with
  | none => rfl
  | some i => rw [hf] at h; simp only at h ⊢; rw [w64 (by omega) (by omega)]
theorem refFind_L {s : List UInt8} {l : List (List UInt8)} (hl : l.length ≤ 1000) : ∀ (n k : Nat), n + k = l.length + 1 → k ≤ l.length → ref02_Find_L1 s l n (k : Int) = some (match (l.drop k).findIdx? (fun y => y == s) with | some i => .stop (((k + i : Nat) : Int) + 1) | none => .next ())
  | 0, k, h, hk => by omega
  | n + 1, k, h, hk => by
    simp only [ref02_Find_L1]
    by_cases hlt : k < l.length
    · rw [if_pos (by simpa using hlt), idx_lt hlt, List.drop_eq_getElem_cons hlt, obs, List.findIdx?_cons, w64_succ hlt (by omega)]
      cases hb : l[k] == s with
      | true => simp
      | false =>
        rw [if_neg (by simp), refFind_L hl n (k + 1) (by omega) (by omega)]
        cases (l.drop (k + 1)).findIdx? (fun y => y == s) with
        | none => simp
        | some i => simp; omega
    · rw [if_neg (by simpa using hlt), List.drop_eq_nil_of_le (by omega)]
      rfl
theorem ref02_Find_eq (s : List UInt8) : ref02_Find s = some (findS s) := by
  unfold ref02_Find ref02_Words
  rw [obs]
  have h := refFind_L (s := s) (l := glob_2) (by decide) 24 0 (by decide) (by decide)
  have e : (show List (List UInt8) from glob_2).length = 23 := rfl
  show Option.bind (ref02_Find_L1 s glob_2 24 ((0 : Nat) : Int)) _ = _
  rw [h, obs, List.drop_zero]
  unfold findS
  cases glob_2.findIdx? (fun y => y == s) with
  | none => rfl
  | some i => simp [Ctl.elim]
/-! Names. -/
def isL (b : UInt8) : Bool := (word_Letter (b.toNat : Int)).getD false
theorem letter_some (a : Int) : word_Letter a = some ((word_Letter a).getD false) := by unfold word_Letter; split <;> rfl
theorem word_L (b : UInt8) : word_Letter (b.toNat : Int) = some (isL b) := letter_some _
theorem ref02_L (b : UInt8) : ref02_Letter (b.toNat : Int) = some (isL b) := by rw [← letter_eq]; exact word_L b
def isC (b : UInt8) : Bool := isL b || isD b
def nameS (s : List UInt8) : Bool := match s with
  | [] => false
  | b :: t => decide (t.length < 20) && (isL b && ((b :: t).all isC && findS (b :: t) == 0))
theorem idx_bytes {s : List UInt8} {k : Nat} (h : k < s.length) : idx (bytesL s) (k : Int) = some (s[k].toNat : Int) := by
  have hb : k < (bytesL s).length := by simp [bytesL]; exact h
  rw [idx_lt hb]; simp [bytesL]
theorem wName_L {s : List UInt8} (hs : s.length ≤ 1000) : ∀ (n k : Nat), n + k = s.length + 1 → k ≤ s.length → word_Name_L1 s n (k : Int) = some (if (s.drop k).all isC = true then .next () else .stop false)
  | 0, k, h, hk => by omega
  | n + 1, k, h, hk => by
    have hb : (bytesL s).length = s.length := by simp [bytesL]
    simp only [word_Name_L1, hb]
    by_cases hlt : k < s.length
    · rw [if_pos (by simpa using hlt), idx_bytes hlt, obs, word_L, obs, (digit_eq s[k]).1, List.drop_eq_getElem_cons hlt, w64_succ hlt (by omega), wName_L hs n (k + 1) (by omega) (by omega)]
      simp only [List.all_cons, isC]
      rcases Bool.eq_false_or_eq_true (isL s[k]) with h1 | h1 <;> rcases Bool.eq_false_or_eq_true (isD s[k]) with h2 | h2 <;> simp [obs, h1, h2]
    · rw [if_neg (by simpa using hlt), List.drop_eq_nil_of_le (by omega)]; rfl
theorem rName_L {s : List UInt8} (hs : s.length ≤ 1000) : ∀ (n k : Nat), n + k = s.length + 1 → k ≤ s.length → ref02_Name_L1 s n (k : Int) = some (if (s.drop k).all isC = true then .next () else .stop false)
  | 0, k, h, hk => by omega
  | n + 1, k, h, hk => by
    simp only [ref02_Name_L1]
    by_cases hlt : k < s.length
    · rw [if_pos (by simpa using hlt), idx_lt hlt, obs, ref02_L, obs, obs, (digit_eq s[k]).2, List.drop_eq_getElem_cons hlt, w64_succ hlt (by omega), rName_L hs n (k + 1) (by omega) (by omega)]
      simp only [List.all_cons, isC]
      rcases Bool.eq_false_or_eq_true (isL s[k]) with h1 | h1 <;> rcases Bool.eq_false_or_eq_true (isD s[k]) with h2 | h2 <;> simp [obs, h1, h2]
    · rw [if_neg (by simpa using hlt), List.drop_eq_nil_of_le (by omega)]; rfl
theorem word_Name_eq (s : List UInt8) : word_Name s = some (nameS s) := by
  unfold word_Name nameS
  match s with
  | [] => rfl
  | b :: t =>
    have hi : idx (b :: t) 0 = some b := rfl
    have hb : (bytesL (b :: t)).length = (b :: t).length := by simp [bytesL]
    by_cases h20 : t.length < 20
    · have e0 : ((b :: t) == ([] : List UInt8)) = false := rfl
      have e1 : decide (((b :: t).length : Int) > 20) = false := by simp; omega
      rw [e0, e1, hi, if_neg (by simp), if_neg (by simp), obs, word_L, obs, obs]
      cases hL : isL b with
      | false => simp [hL]
      | true =>
        rw [if_neg (by simp), room_ok (by simp; omega), obs, hb, fuel_len', show (0 : Int) = ((0 : Nat) : Int) from rfl, wName_L (by simp; omega) _ 0 (by omega) (by omega), obs, List.drop_zero]
        cases hA : (b :: t).all isC with
        | false => rw [if_neg (by simp)]; simp [Ctl.elim, hL, hA]
        | true => rw [if_pos rfl]; simp only [Ctl.elim, word_Find_eq, obs]; simp [h20, hL, hA]
    · have e0 : ((b :: t) == ([] : List UInt8)) = false := rfl
      have e1 : decide (((b :: t).length : Int) > 20) = true := by simp; omega
      rw [e0, e1]
      simp [h20]
theorem ref02_Name_eq (s : List UInt8) : ref02_Name s = some (nameS s) := by
  unfold ref02_Name nameS
  match s with
  | [] => rfl
  | b :: t =>
    have hi : idx (b :: t) 0 = some b := rfl
    have e0 : decide (((b :: t).length : Int) < 1) = false := by simp; omega
    by_cases h20 : t.length < 20
    · have e1 : decide (((b :: t).length : Int) > 20) = false := by simp; omega
      rw [e0, e1, hi, if_neg (by simp), if_neg (by simp), obs, ref02_L, obs, ref02_Find_eq, obs]
      have hn := findS_nn (b :: t)
      cases hL : isL b with
      | false => simp [hL]
      | true =>
        by_cases hf : findS (b :: t) = 0
        · rw [hf, if_neg (by simp), obs, if_neg (by simp), fuel_len', show (0 : Int) = ((0 : Nat) : Int) from rfl, rName_L (by simp; omega) _ 0 (by omega) (by omega), obs, List.drop_zero]
          cases hA : (b :: t).all isC with
          | false => rw [if_neg (by simp)]; simp [Ctl.elim, hL, hA]
          | true => rw [if_pos rfl]; simp [Ctl.elim, h20, hL, hA, hf]
        · rw [if_neg (by simp), obs, if_pos (by simp; omega)]
          simp [hf, hL]
    · have e1 : decide (((b :: t).length : Int) > 20) = true := by simp; omega
      rw [e0, e1]
      simp [h20]

theorem strL_len (l : List Int) : (strL l).length = l.length := by simp [strL]
/-! ### Words of events. -/
def valS (v : GVal) : List UInt8 := if v.fRef = true then 64 :: digS v.fN else digS v.fN
/-! ### The patterns' words. -/
def patS (k : Nat) : List (List UInt8) := match k with
  | 1 => [[110, 101, 119], [35, 111], [36], [98, 121], [35, 119], [105, 110], [35, 48], [35, 49], [35, 50], [35, 51]]
  | 2 => [[112, 117, 116], [35, 111], [36], [98, 121], [35, 119], [64]]
  | 3 => [[99, 97, 108, 108], [35, 111], [36], [98, 121], [35, 119]]
  | 4 => [[98, 97, 99, 107], [35, 119], [64]]
  | 5 => [[109, 111, 118, 101], [35, 111], [116, 111], [35, 48], [98, 121], [35, 119]]
  | 6 => [[100, 101, 108, 101, 116, 101], [35, 111], [98, 121], [35, 119]]
  | _ => []
theorem fields1 : Option.bind (event_pattern 1) strings_Fields = some (patS 1) := by decide +kernel
theorem fields2 : Option.bind (event_pattern 2) strings_Fields = some (patS 2) := by decide +kernel
theorem fields3 : Option.bind (event_pattern 3) strings_Fields = some (patS 3) := by decide +kernel
theorem fields4 : Option.bind (event_pattern 4) strings_Fields = some (patS 4) := by decide +kernel
theorem fields5 : Option.bind (event_pattern 5) strings_Fields = some (patS 5) := by decide +kernel
theorem fields6 : Option.bind (event_pattern 6) strings_Fields = some (patS 6) := by decide +kernel
theorem awake42 : law42_awake = some true := by decide +kernel

/-! ### Events that are right. -/
theorem bG_iff {a b : GEvent} : bGEvent a b = true ↔ a = b := by
  obtain ⟨k, w, o, n, ⟨r, v⟩, ⟨x0, x1, x2, x3⟩⟩ := a
  obtain ⟨k', w', o', n', ⟨r', v'⟩, ⟨y0, y1, y2, y3⟩⟩ := b
  unfold bGEvent
  simp [and_assoc]
theorem bG_dec (a b : GEvent) : bGEvent a b = decide (a = b) := by
  rw [Bool.eq_iff_iff, bG_iff, decide_eq_true_eq]
theorem only_1 {e : GEvent} (h : e.fKind = 1) : ref42_only e = some { fKind := 1, fWho := e.fWho, fObj := e.fObj, fName := e.fName, fV := zGVal, fOwn := e.fOwn } := by
  obtain ⟨k, w, o, n, v, ow⟩ := e; simp only at h; subst h; rfl
theorem only_2 {e : GEvent} (h : e.fKind = 2) : ref42_only e = some { fKind := 2, fWho := e.fWho, fObj := e.fObj, fName := e.fName, fV := e.fV, fOwn := ⟨0, 0, 0, 0⟩ } := by
  obtain ⟨k, w, o, n, v, ow⟩ := e; simp only at h; subst h; rfl
theorem only_3 {e : GEvent} (h : e.fKind = 3) : ref42_only e = some { fKind := 3, fWho := e.fWho, fObj := e.fObj, fName := e.fName, fV := zGVal, fOwn := ⟨0, 0, 0, 0⟩ } := by
  obtain ⟨k, w, o, n, v, ow⟩ := e; simp only at h; subst h; rfl
theorem only_4 {e : GEvent} (h : e.fKind = 4) : ref42_only e = some { fKind := 4, fWho := e.fWho, fObj := 0, fName := [], fV := e.fV, fOwn := ⟨0, 0, 0, 0⟩ } := by
  obtain ⟨k, w, o, n, v, ow⟩ := e; simp only at h; subst h; rfl
theorem only_5 {e : GEvent} (h : e.fKind = 5) : ref42_only e = some { fKind := 5, fWho := e.fWho, fObj := e.fObj, fName := [], fV := zGVal, fOwn := ⟨e.fOwn.a0, 0, 0, 0⟩ } := by
  obtain ⟨k, w, o, n, v, ow⟩ := e; simp only at h; subst h; rfl
theorem only_6 {e : GEvent} (h : e.fKind = 6) : ref42_only e = some { fKind := 6, fWho := e.fWho, fObj := e.fObj, fName := [], fV := zGVal, fOwn := ⟨0, 0, 0, 0⟩ } := by
  obtain ⟨k, w, o, n, v, ow⟩ := e; simp only at h; subst h; rfl
def rightS (e : GEvent) : Bool := decide (1 ≤ e.fKind) && (decide (e.fKind ≤ 6) && (bGEvent e ((ref42_only e).getD zGEvent) && (decide (3 < e.fKind) || nameS e.fName)))
theorem kind_cases {a : Int} (h1 : 1 ≤ a) (h2 : a ≤ 6) : a = 1 ∨ a = 2 ∨ a = 3 ∨ a = 4 ∨ a = 5 ∨ a = 6 := by omega
theorem only_some {e : GEvent} (h1 : 1 ≤ e.fKind) (h2 : e.fKind ≤ 6) : ref42_only e = some ((ref42_only e).getD zGEvent) := by
  rcases kind_cases h1 h2 with h | h | h | h | h | h
  · rw [only_1 h]; rfl
  · rw [only_2 h]; rfl
  · rw [only_3 h]; rfl
  · rw [only_4 h]; rfl
  · rw [only_5 h]; rfl
  · rw [only_6 h]; rfl
theorem ref42_Right_eq (e : GEvent) : ref42_Right e = some (rightS e) := by
  unfold ref42_Right rightS
  by_cases h1 : 1 ≤ e.fKind
  · rw [if_pos (by rw [decide_eq_true_eq]; omega), decide_eq_true h1]
    by_cases h2 : e.fKind ≤ 6
    · rw [if_pos (by rw [decide_eq_true_eq]; omega), decide_eq_true h2, only_some h1 h2, obs, Option.getD_some]
      cases bGEvent e ((ref42_only e).getD zGEvent) with
      | false => rfl
      | true =>
        rw [if_pos rfl]
        by_cases h3 : 3 < e.fKind
        · rw [if_pos (by rw [decide_eq_true_eq]; omega), decide_eq_true h3]; rfl
        · rw [if_neg (by rw [decide_eq_true_eq]; omega), decide_eq_false h3, ref02_Name_eq, obs]; rfl
    · rw [if_neg (by rw [decide_eq_true_eq]; omega), decide_eq_false h2]; rfl
  · rw [if_neg (by rw [decide_eq_true_eq]; omega), decide_eq_false h1]; rfl
theorem rightS_1 {e : GEvent} (h : e.fKind = 1) : rightS e = (decide (e = { fKind := 1, fWho := e.fWho, fObj := e.fObj, fName := e.fName, fV := zGVal, fOwn := e.fOwn }) && nameS e.fName) := by
  unfold rightS
  rw [only_1 h, Option.getD_some, bG_dec, h]; rfl
theorem rightS_2 {e : GEvent} (h : e.fKind = 2) : rightS e = (decide (e = { fKind := 2, fWho := e.fWho, fObj := e.fObj, fName := e.fName, fV := e.fV, fOwn := ⟨0, 0, 0, 0⟩ }) && nameS e.fName) := by
  unfold rightS
  rw [only_2 h, Option.getD_some, bG_dec, h]; rfl
theorem rightS_3 {e : GEvent} (h : e.fKind = 3) : rightS e = (decide (e = { fKind := 3, fWho := e.fWho, fObj := e.fObj, fName := e.fName, fV := zGVal, fOwn := ⟨0, 0, 0, 0⟩ }) && nameS e.fName) := by
  unfold rightS
  rw [only_3 h, Option.getD_some, bG_dec, h]; rfl
theorem rightS_4 {e : GEvent} (h : e.fKind = 4) : rightS e = decide (e = { fKind := 4, fWho := e.fWho, fObj := 0, fName := [], fV := e.fV, fOwn := ⟨0, 0, 0, 0⟩ }) := by
  unfold rightS
  rw [only_4 h, Option.getD_some, bG_dec, h]
  exact Bool.and_true _
theorem rightS_5 {e : GEvent} (h : e.fKind = 5) : rightS e = decide (e = { fKind := 5, fWho := e.fWho, fObj := e.fObj, fName := [], fV := zGVal, fOwn := ⟨e.fOwn.a0, 0, 0, 0⟩ }) := by
  unfold rightS
  rw [only_5 h, Option.getD_some, bG_dec, h]
  exact Bool.and_true _
theorem rightS_6 {e : GEvent} (h : e.fKind = 6) : rightS e = decide (e = { fKind := 6, fWho := e.fWho, fObj := e.fObj, fName := [], fV := zGVal, fOwn := ⟨0, 0, 0, 0⟩ }) := by
  unfold rightS
  rw [only_6 h, Option.getD_some, bG_dec, h]
  exact Bool.and_true _
theorem rightS_kind {e : GEvent} (h : rightS e = true) : 1 ≤ e.fKind ∧ e.fKind ≤ 6 ∧ (e.fKind ≤ 3 → nameS e.fName = true) := by
  unfold rightS at h
  simp only [Bool.and_eq_true, Bool.or_eq_true, decide_eq_true_eq] at h
  obtain ⟨h1, h2, _, h3⟩ := h
  exact ⟨h1, h2, fun h4 => h3.resolve_left (by omega)⟩

/-! ### The kinds of events (printed by gen_events.py). -/
def wordsS (e : GEvent) : List (List UInt8) := if e.fKind = 1 then [[110, 101, 119], digS e.fObj, e.fName, [98, 121], digS e.fWho, [105, 110], digS e.fOwn.a0, digS e.fOwn.a1, digS e.fOwn.a2, digS e.fOwn.a3] else if e.fKind = 2 then [[112, 117, 116], digS e.fObj, e.fName, [98, 121], digS e.fWho, valS e.fV] else if e.fKind = 3 then [[99, 97, 108, 108], digS e.fObj, e.fName, [98, 121], digS e.fWho] else if e.fKind = 4 then [[98, 97, 99, 107], digS e.fWho, valS e.fV] else if e.fKind = 5 then [[109, 111, 118, 101], digS e.fObj, [116, 111], digS e.fOwn.a0, [98, 121], digS e.fWho] else if e.fKind = 6 then [[100, 101, 108, 101, 116, 101], digS e.fObj, [98, 121], digS e.fWho] else []
theorem wordsS_1 {e : GEvent} (h : e.fKind = 1) : wordsS e = [[110, 101, 119], digS e.fObj, e.fName, [98, 121], digS e.fWho, [105, 110], digS e.fOwn.a0, digS e.fOwn.a1, digS e.fOwn.a2, digS e.fOwn.a3] := by
  unfold wordsS
  rw [if_pos h]
theorem wordsS_2 {e : GEvent} (h : e.fKind = 2) : wordsS e = [[112, 117, 116], digS e.fObj, e.fName, [98, 121], digS e.fWho, valS e.fV] := by
  unfold wordsS
  rw [if_neg (by rw [h]; decide), if_pos h]
theorem wordsS_3 {e : GEvent} (h : e.fKind = 3) : wordsS e = [[99, 97, 108, 108], digS e.fObj, e.fName, [98, 121], digS e.fWho] := by
  unfold wordsS
  rw [if_neg (by rw [h]; decide), if_neg (by rw [h]; decide), if_pos h]
theorem wordsS_4 {e : GEvent} (h : e.fKind = 4) : wordsS e = [[98, 97, 99, 107], digS e.fWho, valS e.fV] := by
  unfold wordsS
  rw [if_neg (by rw [h]; decide), if_neg (by rw [h]; decide), if_neg (by rw [h]; decide), if_pos h]
theorem wordsS_5 {e : GEvent} (h : e.fKind = 5) : wordsS e = [[109, 111, 118, 101], digS e.fObj, [116, 111], digS e.fOwn.a0, [98, 121], digS e.fWho] := by
  unfold wordsS
  rw [if_neg (by rw [h]; decide), if_neg (by rw [h]; decide), if_neg (by rw [h]; decide), if_neg (by rw [h]; decide), if_pos h]
theorem wordsS_6 {e : GEvent} (h : e.fKind = 6) : wordsS e = [[100, 101, 108, 101, 116, 101], digS e.fObj, [98, 121], digS e.fWho] := by
  unfold wordsS
  rw [if_neg (by rw [h]; decide), if_neg (by rw [h]; decide), if_neg (by rw [h]; decide), if_neg (by rw [h]; decide), if_neg (by rw [h]; decide), if_pos h]
/-! ### What the document's functions on events compute (printed by gen_evread.py). -/
def e64 (a : Int) : Prop := -9223372036854775808 ≤ a ∧ a ≤ 9223372036854775807
def evIn (e : GEvent) : Prop := e64 e.fWho ∧ e64 e.fObj ∧ e64 e.fV.fN ∧ e64 e.fOwn.a0 ∧ e64 e.fOwn.a1 ∧ e64 e.fOwn.a2 ∧ e64 e.fOwn.a3 ∧ e.fName.length ≤ 1000
theorem digS_len (a : Int) : (digS a).length ≤ 30 := by
  unfold digS
  have := rst_len 21 a.natAbs
  rw [List.length_append, List.length_append, strL_len, strL_len, List.length_reverse]
  split <;> simp <;> omega
theorem valS_len (v : GVal) : (valS v).length ≤ 31 := by
  unfold valS
  have := digS_len v.fN
  split
  · simp; omega
  · omega
theorem ref42_d_eq {a : Int} (h : e64 a) : ref42_d a = some (digS a) := by unfold ref42_d; rw [ref02_Digits_eq h.1 h.2, obs]
theorem room_1 {n : Int} (h : n ≤ 1000000) : room n 1 = some () := by unfold room; rw [if_pos (by omega)]
theorem ref42_value_eq {v : GVal} (h : e64 v.fN) : ref42_value v = some (valS v) := by
  have := digS_len v.fN
  unfold ref42_value valS
  rw [ref42_d_eq h, obs, obs]
  split
  · rw [room_1 (by simp; omega), obs]; rfl
  · rfl
def tx (e : GEvent) : List UInt8 := if rightS e = true then jn 32 (wordsS e) else []
theorem ref42_Text_eq {e : GEvent} (he : evIn e) : ref42_Text e = some (tx e) := by
  obtain ⟨h1, h2, h3, h4, h5, h6, h7, h8⟩ := he
  have l1 := digS_len e.fWho; have l2 := digS_len e.fObj; have l3 := valS_len e.fV; have l4 := digS_len e.fOwn.a0; have l5 := digS_len e.fOwn.a1; have l6 := digS_len e.fOwn.a2; have l7 := digS_len e.fOwn.a3
  unfold ref42_Text tx
  rw [ref42_Right_eq, obs]
  cases hr : rightS e with
  | false => rfl
  | true =>
    rw [if_neg (by simp), if_pos rfl]
    simp only [ref42_d_eq h1, ref42_d_eq h2, ref42_d_eq h4, ref42_d_eq h5, ref42_d_eq h6, ref42_d_eq h7, ref42_value_eq h3, obs, List.length_append, List.length_cons, List.length_nil]
    repeat rw [room_1 (by omega), obs]
    obtain ⟨k1, k2, _⟩ := rightS_kind hr
    rcases kind_cases k1 k2 with h | h | h | h | h | h
    · rw [wordsS_1 h, h]; simp [jn, idx]
    · rw [wordsS_2 h, h]; simp [jn, idx]
    · rw [wordsS_3 h, h]; simp [jn, idx]
    · rw [wordsS_4 h, h]; simp [jn, idx]
    · rw [wordsS_5 h, h]; simp [jn, idx]
    · rw [wordsS_6 h, h]; simp [jn, idx]
theorem ob_some {α R S : Type} (a : α) (f : α → Ctl (Option R) S) : obind (some a) f = f a := rfl
theorem go_nx {R S : Type} (x : S) (k : S → Option R) : Ctl.go (.next x) k = k x := rfl
theorem go_st {R S : Type} (a : Option R) (k : S → Option R) : Ctl.go (.stop a) k = a := rfl
/-! ### What the program's functions that write events compute (printed by gen_evtext.py). -/
def rstep (p : List UInt8) (a0 x44 : GEvent) : Ctl (Option (Ctl Bool GEvent)) GEvent :=
  obind (idx p 0) fun (y85 : UInt8) =>
  if ((y85.toNat : Int) == 35) = true then
    obind (idx p 1) fun (y88 : UInt8) =>
    obind (event_slot_w (y88.toNat : Int) x44) fun (y90 : Nat) =>
    obind (idx p 1) fun (y92 : UInt8) =>
    obind (event_slot_w (y92.toNat : Int) a0) fun (y94 : Nat) =>
    obind (getc_27 a0 y94) fun (y97 : Int) =>
    obind (setc_27 x44 y90 y97) fun (y99 : GEvent) =>
    .next y99
  else
    if ((y85.toNat : Int) == 36) = true then
      obind (word_Name a0.fName) fun (y103 : Bool) =>
      if (!y103) = true then
        .stop (some (.stop false))
      else
        .next ({ x44 with fName := a0.fName } : GEvent)
    else
      if ((y85.toNat : Int) == 64) = true then
        .next ({ x44 with fV := a0.fV } : GEvent)
      else
        .next x44
theorem rs_o (e x : GEvent) : rstep [35, 111] e x = .next { x with fObj := e.fObj } := rfl
theorem rs_w (e x : GEvent) : rstep [35, 119] e x = .next { x with fWho := e.fWho } := rfl
theorem rs_0 (e x : GEvent) : rstep [35, 48] e x = .next { x with fOwn := { x.fOwn with a0 := e.fOwn.a0 } } := rfl
theorem rs_1 (e x : GEvent) : rstep [35, 49] e x = .next { x with fOwn := { x.fOwn with a1 := e.fOwn.a1 } } := rfl
theorem rs_2 (e x : GEvent) : rstep [35, 50] e x = .next { x with fOwn := { x.fOwn with a2 := e.fOwn.a2 } } := rfl
theorem rs_3 (e x : GEvent) : rstep [35, 51] e x = .next { x with fOwn := { x.fOwn with a3 := e.fOwn.a3 } } := rfl
theorem rs_val (e x : GEvent) : rstep [64] e x = .next { x with fV := e.fV } := rfl
theorem rs_name (e x : GEvent) : rstep [36] e x = bif nameS e.fName then .next { x with fName := e.fName } else .stop (some (.stop false)) := by
  unfold rstep
  rw [show idx ([36] : List UInt8) 0 = some 36 from rfl, ob_some, if_neg (by decide), if_pos (by decide), word_Name_eq, ob_some]
  cases nameS e.fName <;> rfl
theorem rs_lit {b : UInt8} {t : List UInt8} (e x : GEvent) (h1 : b ≠ 35) (h2 : b ≠ 36) (h3 : b ≠ 64) : rstep (b :: t) e x = .next x := by
  have key : ∀ c : UInt8, b ≠ c → ¬ (((b.toNat : Int) == (c.toNat : Int)) = true) := by
    intro c hc h
    apply hc
    have : b.toNat = c.toNat := by have := beq_iff_eq.1 h; omega
    exact UInt8.toNat_inj.1 this
  unfold rstep
  rw [show idx (b :: t) 0 = some b from rfl, ob_some, if_neg (show ¬ (((b.toNat : Int) == 35) = true) from key 35 h1), if_neg (show ¬ (((b.toNat : Int) == 36) = true) from key 36 h2), if_neg (show ¬ (((b.toNat : Int) == 64) = true) from key 64 h3)]
def rightL (e : GEvent) : List (List UInt8) → GEvent → Option GEvent
  | [], x => some x
  | p :: ps, x => match rstep p e x with
    | .next x' => rightL e ps x'
    | .stop _ => none
theorem right_L {e : GEvent} {wt : List (List UInt8)} (hs : wt.length ≤ 1000) (hok : ∀ p ∈ wt, ∀ x, (∃ x', rstep p e x = .next x') ∨ rstep p e x = .stop (some (.stop false))) :
    ∀ (n k : Nat) (x : GEvent), n + k = wt.length + 1 → k ≤ wt.length → event_Right_L1 e wt n x (k : Int) = some (match rightL e (wt.drop k) x with | some x' => .next x' | none => .stop false)
  | 0, k, x, h, hk => by omega
  | n + 1, k, x, h, hk => by
    unfold event_Right_L1
    by_cases hlt : k < wt.length
    · rw [if_pos (by rw [decide_eq_true_eq]; omega), idx_lt hlt, ob_some, w64_succ hlt (by omega), List.drop_eq_getElem_cons hlt]
      show Ctl.go (rstep wt[k] e x) _ = _
      rcases hok wt[k] (List.getElem_mem hlt) x with ⟨x', h1⟩ | h1
      · simp only [rightL]
        rw [h1, go_nx, right_L hs hok n (k + 1) x' (by omega) (by omega)]
      · simp only [rightL]
        rw [h1, go_st]
    · rw [if_neg (by rw [decide_eq_true_eq]; omega), List.drop_of_length_le (by omega)]
      rfl
theorem sp_num {e : GEvent} {a : Int} (h : e64 a) {m : UInt8} {k : Nat} (h1 : event_slot_w (m.toNat : Int) e = some k) (h2 : getc_27 e k = some a) : event_spell e [35, m] = some (digS a) := by
  unfold event_spell
  rw [show idx [35, m] 0 = some 35 from rfl, obs, if_pos (by decide), show idx [35, m] 1 = some m from rfl, obs, h1, obs, h2, obs, word_Digits_eq h.1 h.2, obs]
theorem sp_name (e : GEvent) : event_spell e [36] = some e.fName := rfl
theorem sp_val {e : GEvent} (h : e64 e.fV.fN) : event_spell e [64] = some (valS e.fV) := by
  have := digS_len e.fV.fN
  unfold event_spell valS
  rw [show idx ([64] : List UInt8) 0 = some 64 from rfl, obs, if_neg (by decide), if_neg (by decide), if_pos (by decide), word_Digits_eq h.1 h.2, obs, obs]
  split
  · rw [room_1 (by simp; omega), obs]; rfl
  · rfl
theorem sp_lit {b : UInt8} {t : List UInt8} (e : GEvent) (h1 : b ≠ 35) (h2 : b ≠ 36) (h3 : b ≠ 64) : event_spell e (b :: t) = some (b :: t) := by
  have key : ∀ c : UInt8, b ≠ c → ¬ (((b.toNat : Int) == (c.toNat : Int)) = true) := by
    intro c hc h
    apply hc
    have : b.toNat = c.toNat := by have := beq_iff_eq.1 h; omega
    exact UInt8.toNat_inj.1 this
  unfold event_spell
  rw [show idx (b :: t) 0 = some b from rfl, obs, if_neg (show ¬ (((b.toNat : Int) == 35) = true) from key 35 h1), if_neg (show ¬ (((b.toNat : Int) == 36) = true) from key 36 h2), if_neg (show ¬ (((b.toNat : Int) == 64) = true) from key 64 h3)]
theorem write_L {e : GEvent} {wt ws : List (List UInt8)} (hs : wt.length ≤ 1000) (hl : wt.length = ws.length) (hok : ∀ (i : Nat) (h : i < wt.length) (h' : i < ws.length), event_spell e wt[i] = some ws[i]) :
    ∀ (n k : Nat), n + k = wt.length + 1 → k ≤ wt.length → event_write_L1 e wt n (ws.take k) (k : Int) = some ws
  | 0, k, h, hk => by omega
  | n + 1, k, h, hk => by
    unfold event_write_L1
    by_cases hlt : k < wt.length
    · have hlt' : k < ws.length := by omega
      have htk : ws.take k ++ [ws[k]] = ws.take (k + 1) := by rw [List.take_add_one, List.getElem?_eq_getElem hlt']; rfl
      rw [if_pos (by rw [decide_eq_true_eq]; omega), idx_lt hlt, obs, hok k hlt hlt', obs, show room (((ws.take k).length : Int) + ([ws[k]].length : Int)) 16 = some () by unfold room; rw [if_pos (by simp; omega)], obs, w64_succ hlt (by omega), htk]
      exact write_L hs hl hok n (k + 1) (by omega) (by omega)
    · rw [if_neg (by rw [decide_eq_true_eq]; omega), List.take_of_length_le (by omega)]
theorem jn_len (c : UInt8) {N : Nat} : ∀ {ws : List (List UInt8)}, (∀ w ∈ ws, w.length ≤ N) → (jn c ws).length ≤ ws.length * (N + 1)
  | [], _ => by simp [jn]
  | [w], h => by have := h w (by simp); simp [jn]; omega
  | w :: v :: ws, h => by
    have h1 := h w (by simp)
    have h2 := jn_len c (ws := v :: ws) (fun x hx => h x (by simp [hx]))
    rw [jn_cons _ _ (by simp), List.length_append, List.length_cons, List.length_cons (a := w), Nat.add_mul]
    omega
theorem join_jn (c : UInt8) : ∀ ws : List (List UInt8), Lib.join ws [c] = jn c ws
  | [] => rfl
  | [w] => Lib.join_one w [c]
  | w :: v :: ws => by
    rw [Lib.join_cons, jn_cons _ _ (by simp), ← join_jn c (v :: ws), Lib.join_cons]
    simp [Lib.joinTail]
theorem line_eq {ws : List (List UInt8)} (h1 : ws.length ≤ 1000) (h2 : ∀ w ∈ ws, w.length ≤ 1000) : event_line ws = some (jn 32 ws) := by
  have h3 := jn_len 32 h2
  have h4 : ws.length * (1000 + 1) ≤ 1000 * (1000 + 1) := Nat.mul_le_mul_right _ h1
  unfold event_line strings_Join joinF
  rw [join_jn, if_pos ⟨by omega, by omega⟩, obs]
theorem words_len {e : GEvent} (h : e.fName.length ≤ 1000) : (wordsS e).length ≤ 10 ∧ ∀ w ∈ wordsS e, w.length ≤ 1000 := by
  have l1 := digS_len e.fWho; have l2 := digS_len e.fObj; have l3 := valS_len e.fV; have l4 := digS_len e.fOwn.a0; have l5 := digS_len e.fOwn.a1; have l6 := digS_len e.fOwn.a2; have l7 := digS_len e.fOwn.a3
  unfold wordsS
  repeat' split
  all_goals
    refine ⟨by simp, ?_⟩
    intro w hw
    simp only [List.mem_cons, List.not_mem_nil, or_false] at hw
    try (rcases hw with rfl | rfl | rfl | rfl | rfl | rfl | rfl | rfl | rfl | rfl <;> first | omega | (simp; done))
    try (rcases hw with rfl | rfl | rfl | rfl | rfl | rfl <;> first | omega | (simp; done))
    try (rcases hw with rfl | rfl | rfl | rfl | rfl <;> first | omega | (simp; done))
    try (rcases hw with rfl | rfl | rfl | rfl <;> first | omega | (simp; done))
    try (rcases hw with rfl | rfl | rfl <;> first | omega | (simp; done))
theorem rights_1 {e : GEvent} : ∀ p ∈ patS 1, ∀ x, (∃ x', rstep p e x = .next x') ∨ rstep p e x = .stop (some (.stop false)) := by
  intro p hp x
  simp only [patS, List.mem_cons, List.not_mem_nil, or_false] at hp
  rcases hp with rfl | rfl | rfl | rfl | rfl | rfl | rfl | rfl | rfl | rfl
  · exact .inl ⟨_, rs_lit (b := 110) (t := [101, 119]) e x (by decide) (by decide) (by decide)⟩
  · exact .inl ⟨_, rs_o e x⟩
  · rw [rs_name]
    cases nameS e.fName with
    | true => exact .inl ⟨_, rfl⟩
    | false => exact .inr rfl
  · exact .inl ⟨_, rs_lit (b := 98) (t := [121]) e x (by decide) (by decide) (by decide)⟩
  · exact .inl ⟨_, rs_w e x⟩
  · exact .inl ⟨_, rs_lit (b := 105) (t := [110]) e x (by decide) (by decide) (by decide)⟩
  · exact .inl ⟨_, rs_0 e x⟩
  · exact .inl ⟨_, rs_1 e x⟩
  · exact .inl ⟨_, rs_2 e x⟩
  · exact .inl ⟨_, rs_3 e x⟩
theorem righted_1 {e : GEvent} : rightL e (patS 1) { fKind := 1, fWho := 0, fObj := 0, fName := [], fV := zGVal, fOwn := ⟨0, 0, 0, 0⟩ } = bif nameS e.fName then some { fKind := 1, fWho := e.fWho, fObj := e.fObj, fName := e.fName, fV := zGVal, fOwn := e.fOwn } else none := by
  simp only [patS, rightL]
  rw [rs_lit (b := 110) (t := [101, 119]) _ _ (by decide) (by decide) (by decide)]
  try simp only
  rw [rs_o]
  try simp only
  rw [rs_name]
  cases nameS e.fName with
  | false => rfl
  | true =>
    simp only [cond_true]
    rw [rs_lit (b := 98) (t := [121]) _ _ (by decide) (by decide) (by decide)]
    try simp only
    rw [rs_w]
    try simp only
    rw [rs_lit (b := 105) (t := [110]) _ _ (by decide) (by decide) (by decide)]
    try simp only
    rw [rs_0]
    try simp only
    rw [rs_1]
    try simp only
    rw [rs_2]
    try simp only
    rw [rs_3]
    try simp only
theorem right_eq1 {e : GEvent} (h : e.fKind = 1) : event_Right e = some (rightS e) := by
  have q1 : event_pattern 1 = some [110, 101, 119, 32, 35, 111, 32, 36, 32, 98, 121, 32, 35, 119, 32, 105, 110, 32, 35, 48, 32, 35, 49, 32, 35, 50, 32, 35, 51] := rfl
  have q3 := fields1
  rw [q1, obs] at q3
  unfold event_Right
  rw [h, q1, obs, if_neg (by simp), obs, q3, obs]
  have hL : event_Right_L1 e (patS 1) 11 { fKind := 1, fWho := 0, fObj := 0, fName := [], fV := zGVal, fOwn := ⟨0, 0, 0, 0⟩ } 0 = _ := right_L (e := e) (wt := patS 1) (by decide) rights_1 11 0 _ rfl (by decide)
  rw [List.drop_zero, righted_1] at hL
  rw [show (((((patS 1).length : Int) : Int) - (0)).toNat + 1) = 11 from rfl, hL, obs, rightS_1 h]
  rw [← bG_dec]
  have hc : ∀ y : GEvent, bGEvent y e = bGEvent e y := fun y => by rw [bG_dec, bG_dec]; simp [eq_comm]
  cases nameS e.fName with
  | false => simp [Ctl.elim]
  | true => simp [Ctl.elim, hc]
theorem write_eq1 {e : GEvent} (h : e.fKind = 1) (he : evIn e) : event_write e = some (jn 32 (wordsS e)) := by
  obtain ⟨h1, h2, h3, h4, h5, h6, h7, h8⟩ := he
  have hl := words_len h8
  unfold event_write
  rw [h, ← Option.bind_assoc, fields1, obs]
  have hw : ∀ (i : Nat) (h : i < (patS 1).length) (h' : i < (wordsS e).length), event_spell e (patS 1)[i] = some (wordsS e)[i] := by
    rw [wordsS_1 h]
    intro i hi hi'
    match i, hi with
    | 0, _ => exact sp_lit e (by decide) (by decide) (by decide)
    | 1, _ => exact sp_num (m := 111) h2 rfl rfl
    | 2, _ => exact sp_name e
    | 3, _ => exact sp_lit e (by decide) (by decide) (by decide)
    | 4, _ => exact sp_num (m := 119) h1 rfl rfl
    | 5, _ => exact sp_lit e (by decide) (by decide) (by decide)
    | 6, _ => exact sp_num (m := 48) h4 rfl rfl
    | 7, _ => exact sp_num (m := 49) h5 rfl rfl
    | 8, _ => exact sp_num (m := 50) h6 rfl rfl
    | 9, _ => exact sp_num (m := 51) h7 rfl rfl
    | i + 10, hi => exact absurd hi (by simp [patS])
  have hL : event_write_L1 e (patS 1) 11 [] 0 = _ := write_L (e := e) (wt := patS 1) (ws := wordsS e) (by decide) (by rw [wordsS_1 h]; rfl) hw 11 0 rfl (by decide)
  rw [show (((((patS 1).length : Int) : Int) - (0)).toNat + 1) = 11 from rfl, hL, obs, line_eq (by omega) hl.2, obs]
theorem rights_2 {e : GEvent} : ∀ p ∈ patS 2, ∀ x, (∃ x', rstep p e x = .next x') ∨ rstep p e x = .stop (some (.stop false)) := by
  intro p hp x
  simp only [patS, List.mem_cons, List.not_mem_nil, or_false] at hp
  rcases hp with rfl | rfl | rfl | rfl | rfl | rfl
  · exact .inl ⟨_, rs_lit (b := 112) (t := [117, 116]) e x (by decide) (by decide) (by decide)⟩
  · exact .inl ⟨_, rs_o e x⟩
  · rw [rs_name]
    cases nameS e.fName with
    | true => exact .inl ⟨_, rfl⟩
    | false => exact .inr rfl
  · exact .inl ⟨_, rs_lit (b := 98) (t := [121]) e x (by decide) (by decide) (by decide)⟩
  · exact .inl ⟨_, rs_w e x⟩
  · exact .inl ⟨_, rs_val e x⟩
theorem righted_2 {e : GEvent} : rightL e (patS 2) { fKind := 2, fWho := 0, fObj := 0, fName := [], fV := zGVal, fOwn := ⟨0, 0, 0, 0⟩ } = bif nameS e.fName then some { fKind := 2, fWho := e.fWho, fObj := e.fObj, fName := e.fName, fV := e.fV, fOwn := ⟨0, 0, 0, 0⟩ } else none := by
  simp only [patS, rightL]
  rw [rs_lit (b := 112) (t := [117, 116]) _ _ (by decide) (by decide) (by decide)]
  try simp only
  rw [rs_o]
  try simp only
  rw [rs_name]
  cases nameS e.fName with
  | false => rfl
  | true =>
    simp only [cond_true]
    rw [rs_lit (b := 98) (t := [121]) _ _ (by decide) (by decide) (by decide)]
    try simp only
    rw [rs_w]
    try simp only
    rw [rs_val]
    try simp only
theorem right_eq2 {e : GEvent} (h : e.fKind = 2) : event_Right e = some (rightS e) := by
  have q1 : event_pattern 2 = some [112, 117, 116, 32, 35, 111, 32, 36, 32, 98, 121, 32, 35, 119, 32, 64] := rfl
  have q3 := fields2
  rw [q1, obs] at q3
  unfold event_Right
  rw [h, q1, obs, if_neg (by simp), obs, q3, obs]
  have hL : event_Right_L1 e (patS 2) 7 { fKind := 2, fWho := 0, fObj := 0, fName := [], fV := zGVal, fOwn := ⟨0, 0, 0, 0⟩ } 0 = _ := right_L (e := e) (wt := patS 2) (by decide) rights_2 7 0 _ rfl (by decide)
  rw [List.drop_zero, righted_2] at hL
  rw [show (((((patS 2).length : Int) : Int) - (0)).toNat + 1) = 7 from rfl, hL, obs, rightS_2 h]
  rw [← bG_dec]
  have hc : ∀ y : GEvent, bGEvent y e = bGEvent e y := fun y => by rw [bG_dec, bG_dec]; simp [eq_comm]
  cases nameS e.fName with
  | false => simp [Ctl.elim]
  | true => simp [Ctl.elim, hc]
theorem write_eq2 {e : GEvent} (h : e.fKind = 2) (he : evIn e) : event_write e = some (jn 32 (wordsS e)) := by
  obtain ⟨h1, h2, h3, h4, h5, h6, h7, h8⟩ := he
  have hl := words_len h8
  unfold event_write
  rw [h, ← Option.bind_assoc, fields2, obs]
  have hw : ∀ (i : Nat) (h : i < (patS 2).length) (h' : i < (wordsS e).length), event_spell e (patS 2)[i] = some (wordsS e)[i] := by
    rw [wordsS_2 h]
    intro i hi hi'
    match i, hi with
    | 0, _ => exact sp_lit e (by decide) (by decide) (by decide)
    | 1, _ => exact sp_num (m := 111) h2 rfl rfl
    | 2, _ => exact sp_name e
    | 3, _ => exact sp_lit e (by decide) (by decide) (by decide)
    | 4, _ => exact sp_num (m := 119) h1 rfl rfl
    | 5, _ => exact sp_val h3
    | i + 6, hi => exact absurd hi (by simp [patS])
  have hL : event_write_L1 e (patS 2) 7 [] 0 = _ := write_L (e := e) (wt := patS 2) (ws := wordsS e) (by decide) (by rw [wordsS_2 h]; rfl) hw 7 0 rfl (by decide)
  rw [show (((((patS 2).length : Int) : Int) - (0)).toNat + 1) = 7 from rfl, hL, obs, line_eq (by omega) hl.2, obs]
theorem rights_3 {e : GEvent} : ∀ p ∈ patS 3, ∀ x, (∃ x', rstep p e x = .next x') ∨ rstep p e x = .stop (some (.stop false)) := by
  intro p hp x
  simp only [patS, List.mem_cons, List.not_mem_nil, or_false] at hp
  rcases hp with rfl | rfl | rfl | rfl | rfl
  · exact .inl ⟨_, rs_lit (b := 99) (t := [97, 108, 108]) e x (by decide) (by decide) (by decide)⟩
  · exact .inl ⟨_, rs_o e x⟩
  · rw [rs_name]
    cases nameS e.fName with
    | true => exact .inl ⟨_, rfl⟩
    | false => exact .inr rfl
  · exact .inl ⟨_, rs_lit (b := 98) (t := [121]) e x (by decide) (by decide) (by decide)⟩
  · exact .inl ⟨_, rs_w e x⟩
theorem righted_3 {e : GEvent} : rightL e (patS 3) { fKind := 3, fWho := 0, fObj := 0, fName := [], fV := zGVal, fOwn := ⟨0, 0, 0, 0⟩ } = bif nameS e.fName then some { fKind := 3, fWho := e.fWho, fObj := e.fObj, fName := e.fName, fV := zGVal, fOwn := ⟨0, 0, 0, 0⟩ } else none := by
  simp only [patS, rightL]
  rw [rs_lit (b := 99) (t := [97, 108, 108]) _ _ (by decide) (by decide) (by decide)]
  try simp only
  rw [rs_o]
  try simp only
  rw [rs_name]
  cases nameS e.fName with
  | false => rfl
  | true =>
    simp only [cond_true]
    rw [rs_lit (b := 98) (t := [121]) _ _ (by decide) (by decide) (by decide)]
    try simp only
    rw [rs_w]
    try simp only
theorem right_eq3 {e : GEvent} (h : e.fKind = 3) : event_Right e = some (rightS e) := by
  have q1 : event_pattern 3 = some [99, 97, 108, 108, 32, 35, 111, 32, 36, 32, 98, 121, 32, 35, 119] := rfl
  have q3 := fields3
  rw [q1, obs] at q3
  unfold event_Right
  rw [h, q1, obs, if_neg (by simp), obs, q3, obs]
  have hL : event_Right_L1 e (patS 3) 6 { fKind := 3, fWho := 0, fObj := 0, fName := [], fV := zGVal, fOwn := ⟨0, 0, 0, 0⟩ } 0 = _ := right_L (e := e) (wt := patS 3) (by decide) rights_3 6 0 _ rfl (by decide)
  rw [List.drop_zero, righted_3] at hL
  rw [show (((((patS 3).length : Int) : Int) - (0)).toNat + 1) = 6 from rfl, hL, obs, rightS_3 h]
  rw [← bG_dec]
  have hc : ∀ y : GEvent, bGEvent y e = bGEvent e y := fun y => by rw [bG_dec, bG_dec]; simp [eq_comm]
  cases nameS e.fName with
  | false => simp [Ctl.elim]
  | true => simp [Ctl.elim, hc]
theorem write_eq3 {e : GEvent} (h : e.fKind = 3) (he : evIn e) : event_write e = some (jn 32 (wordsS e)) := by
  obtain ⟨h1, h2, h3, h4, h5, h6, h7, h8⟩ := he
  have hl := words_len h8
  unfold event_write
  rw [h, ← Option.bind_assoc, fields3, obs]
  have hw : ∀ (i : Nat) (h : i < (patS 3).length) (h' : i < (wordsS e).length), event_spell e (patS 3)[i] = some (wordsS e)[i] := by
    rw [wordsS_3 h]
    intro i hi hi'
    match i, hi with
    | 0, _ => exact sp_lit e (by decide) (by decide) (by decide)
    | 1, _ => exact sp_num (m := 111) h2 rfl rfl
    | 2, _ => exact sp_name e
    | 3, _ => exact sp_lit e (by decide) (by decide) (by decide)
    | 4, _ => exact sp_num (m := 119) h1 rfl rfl
    | i + 5, hi => exact absurd hi (by simp [patS])
  have hL : event_write_L1 e (patS 3) 6 [] 0 = _ := write_L (e := e) (wt := patS 3) (ws := wordsS e) (by decide) (by rw [wordsS_3 h]; rfl) hw 6 0 rfl (by decide)
  rw [show (((((patS 3).length : Int) : Int) - (0)).toNat + 1) = 6 from rfl, hL, obs, line_eq (by omega) hl.2, obs]
theorem rights_4 {e : GEvent} : ∀ p ∈ patS 4, ∀ x, (∃ x', rstep p e x = .next x') ∨ rstep p e x = .stop (some (.stop false)) := by
  intro p hp x
  simp only [patS, List.mem_cons, List.not_mem_nil, or_false] at hp
  rcases hp with rfl | rfl | rfl
  · exact .inl ⟨_, rs_lit (b := 98) (t := [97, 99, 107]) e x (by decide) (by decide) (by decide)⟩
  · exact .inl ⟨_, rs_w e x⟩
  · exact .inl ⟨_, rs_val e x⟩
theorem righted_4 {e : GEvent} : rightL e (patS 4) { fKind := 4, fWho := 0, fObj := 0, fName := [], fV := zGVal, fOwn := ⟨0, 0, 0, 0⟩ } = some { fKind := 4, fWho := e.fWho, fObj := 0, fName := [], fV := e.fV, fOwn := ⟨0, 0, 0, 0⟩ } := by
  simp only [patS, rightL]
  rw [rs_lit (b := 98) (t := [97, 99, 107]) _ _ (by decide) (by decide) (by decide)]
  try simp only
  rw [rs_w]
  try simp only
  rw [rs_val]
  try simp only
theorem right_eq4 {e : GEvent} (h : e.fKind = 4) : event_Right e = some (rightS e) := by
  have q1 : event_pattern 4 = some [98, 97, 99, 107, 32, 35, 119, 32, 64] := rfl
  have q3 := fields4
  rw [q1, obs] at q3
  unfold event_Right
  rw [h, q1, obs, if_neg (by simp), obs, q3, obs]
  have hL : event_Right_L1 e (patS 4) 4 { fKind := 4, fWho := 0, fObj := 0, fName := [], fV := zGVal, fOwn := ⟨0, 0, 0, 0⟩ } 0 = _ := right_L (e := e) (wt := patS 4) (by decide) rights_4 4 0 _ rfl (by decide)
  rw [List.drop_zero, righted_4] at hL
  rw [show (((((patS 4).length : Int) : Int) - (0)).toNat + 1) = 4 from rfl, hL, obs, rightS_4 h]
  rw [← bG_dec]
  have hc : ∀ y : GEvent, bGEvent y e = bGEvent e y := fun y => by rw [bG_dec, bG_dec]; simp [eq_comm]
  simp [Ctl.elim, hc]
theorem write_eq4 {e : GEvent} (h : e.fKind = 4) (he : evIn e) : event_write e = some (jn 32 (wordsS e)) := by
  obtain ⟨h1, h2, h3, h4, h5, h6, h7, h8⟩ := he
  have hl := words_len h8
  unfold event_write
  rw [h, ← Option.bind_assoc, fields4, obs]
  have hw : ∀ (i : Nat) (h : i < (patS 4).length) (h' : i < (wordsS e).length), event_spell e (patS 4)[i] = some (wordsS e)[i] := by
    rw [wordsS_4 h]
    intro i hi hi'
    match i, hi with
    | 0, _ => exact sp_lit e (by decide) (by decide) (by decide)
    | 1, _ => exact sp_num (m := 119) h1 rfl rfl
    | 2, _ => exact sp_val h3
    | i + 3, hi => exact absurd hi (by simp [patS])
  have hL : event_write_L1 e (patS 4) 4 [] 0 = _ := write_L (e := e) (wt := patS 4) (ws := wordsS e) (by decide) (by rw [wordsS_4 h]; rfl) hw 4 0 rfl (by decide)
  rw [show (((((patS 4).length : Int) : Int) - (0)).toNat + 1) = 4 from rfl, hL, obs, line_eq (by omega) hl.2, obs]
theorem rights_5 {e : GEvent} : ∀ p ∈ patS 5, ∀ x, (∃ x', rstep p e x = .next x') ∨ rstep p e x = .stop (some (.stop false)) := by
  intro p hp x
  simp only [patS, List.mem_cons, List.not_mem_nil, or_false] at hp
  rcases hp with rfl | rfl | rfl | rfl | rfl | rfl
  · exact .inl ⟨_, rs_lit (b := 109) (t := [111, 118, 101]) e x (by decide) (by decide) (by decide)⟩
  · exact .inl ⟨_, rs_o e x⟩
  · exact .inl ⟨_, rs_lit (b := 116) (t := [111]) e x (by decide) (by decide) (by decide)⟩
  · exact .inl ⟨_, rs_0 e x⟩
  · exact .inl ⟨_, rs_lit (b := 98) (t := [121]) e x (by decide) (by decide) (by decide)⟩
  · exact .inl ⟨_, rs_w e x⟩
theorem righted_5 {e : GEvent} : rightL e (patS 5) { fKind := 5, fWho := 0, fObj := 0, fName := [], fV := zGVal, fOwn := ⟨0, 0, 0, 0⟩ } = some { fKind := 5, fWho := e.fWho, fObj := e.fObj, fName := [], fV := zGVal, fOwn := ⟨e.fOwn.a0, 0, 0, 0⟩ } := by
  simp only [patS, rightL]
  rw [rs_lit (b := 109) (t := [111, 118, 101]) _ _ (by decide) (by decide) (by decide)]
  try simp only
  rw [rs_o]
  try simp only
  rw [rs_lit (b := 116) (t := [111]) _ _ (by decide) (by decide) (by decide)]
  try simp only
  rw [rs_0]
  try simp only
  rw [rs_lit (b := 98) (t := [121]) _ _ (by decide) (by decide) (by decide)]
  try simp only
  rw [rs_w]
  try simp only
theorem right_eq5 {e : GEvent} (h : e.fKind = 5) : event_Right e = some (rightS e) := by
  have q1 : event_pattern 5 = some [109, 111, 118, 101, 32, 35, 111, 32, 116, 111, 32, 35, 48, 32, 98, 121, 32, 35, 119] := rfl
  have q3 := fields5
  rw [q1, obs] at q3
  unfold event_Right
  rw [h, q1, obs, if_neg (by simp), obs, q3, obs]
  have hL : event_Right_L1 e (patS 5) 7 { fKind := 5, fWho := 0, fObj := 0, fName := [], fV := zGVal, fOwn := ⟨0, 0, 0, 0⟩ } 0 = _ := right_L (e := e) (wt := patS 5) (by decide) rights_5 7 0 _ rfl (by decide)
  rw [List.drop_zero, righted_5] at hL
  rw [show (((((patS 5).length : Int) : Int) - (0)).toNat + 1) = 7 from rfl, hL, obs, rightS_5 h]
  rw [← bG_dec]
  have hc : ∀ y : GEvent, bGEvent y e = bGEvent e y := fun y => by rw [bG_dec, bG_dec]; simp [eq_comm]
  simp [Ctl.elim, hc]
theorem write_eq5 {e : GEvent} (h : e.fKind = 5) (he : evIn e) : event_write e = some (jn 32 (wordsS e)) := by
  obtain ⟨h1, h2, h3, h4, h5, h6, h7, h8⟩ := he
  have hl := words_len h8
  unfold event_write
  rw [h, ← Option.bind_assoc, fields5, obs]
  have hw : ∀ (i : Nat) (h : i < (patS 5).length) (h' : i < (wordsS e).length), event_spell e (patS 5)[i] = some (wordsS e)[i] := by
    rw [wordsS_5 h]
    intro i hi hi'
    match i, hi with
    | 0, _ => exact sp_lit e (by decide) (by decide) (by decide)
    | 1, _ => exact sp_num (m := 111) h2 rfl rfl
    | 2, _ => exact sp_lit e (by decide) (by decide) (by decide)
    | 3, _ => exact sp_num (m := 48) h4 rfl rfl
    | 4, _ => exact sp_lit e (by decide) (by decide) (by decide)
    | 5, _ => exact sp_num (m := 119) h1 rfl rfl
    | i + 6, hi => exact absurd hi (by simp [patS])
  have hL : event_write_L1 e (patS 5) 7 [] 0 = _ := write_L (e := e) (wt := patS 5) (ws := wordsS e) (by decide) (by rw [wordsS_5 h]; rfl) hw 7 0 rfl (by decide)
  rw [show (((((patS 5).length : Int) : Int) - (0)).toNat + 1) = 7 from rfl, hL, obs, line_eq (by omega) hl.2, obs]
theorem rights_6 {e : GEvent} : ∀ p ∈ patS 6, ∀ x, (∃ x', rstep p e x = .next x') ∨ rstep p e x = .stop (some (.stop false)) := by
  intro p hp x
  simp only [patS, List.mem_cons, List.not_mem_nil, or_false] at hp
  rcases hp with rfl | rfl | rfl | rfl
  · exact .inl ⟨_, rs_lit (b := 100) (t := [101, 108, 101, 116, 101]) e x (by decide) (by decide) (by decide)⟩
  · exact .inl ⟨_, rs_o e x⟩
  · exact .inl ⟨_, rs_lit (b := 98) (t := [121]) e x (by decide) (by decide) (by decide)⟩
  · exact .inl ⟨_, rs_w e x⟩
theorem righted_6 {e : GEvent} : rightL e (patS 6) { fKind := 6, fWho := 0, fObj := 0, fName := [], fV := zGVal, fOwn := ⟨0, 0, 0, 0⟩ } = some { fKind := 6, fWho := e.fWho, fObj := e.fObj, fName := [], fV := zGVal, fOwn := ⟨0, 0, 0, 0⟩ } := by
  simp only [patS, rightL]
  rw [rs_lit (b := 100) (t := [101, 108, 101, 116, 101]) _ _ (by decide) (by decide) (by decide)]
  try simp only
  rw [rs_o]
  try simp only
  rw [rs_lit (b := 98) (t := [121]) _ _ (by decide) (by decide) (by decide)]
  try simp only
  rw [rs_w]
  try simp only
theorem right_eq6 {e : GEvent} (h : e.fKind = 6) : event_Right e = some (rightS e) := by
  have q1 : event_pattern 6 = some [100, 101, 108, 101, 116, 101, 32, 35, 111, 32, 98, 121, 32, 35, 119] := rfl
  have q3 := fields6
  rw [q1, obs] at q3
  unfold event_Right
  rw [h, q1, obs, if_neg (by simp), obs, q3, obs]
  have hL : event_Right_L1 e (patS 6) 5 { fKind := 6, fWho := 0, fObj := 0, fName := [], fV := zGVal, fOwn := ⟨0, 0, 0, 0⟩ } 0 = _ := right_L (e := e) (wt := patS 6) (by decide) rights_6 5 0 _ rfl (by decide)
  rw [List.drop_zero, righted_6] at hL
  rw [show (((((patS 6).length : Int) : Int) - (0)).toNat + 1) = 5 from rfl, hL, obs, rightS_6 h]
  rw [← bG_dec]
  have hc : ∀ y : GEvent, bGEvent y e = bGEvent e y := fun y => by rw [bG_dec, bG_dec]; simp [eq_comm]
  simp [Ctl.elim, hc]
theorem write_eq6 {e : GEvent} (h : e.fKind = 6) (he : evIn e) : event_write e = some (jn 32 (wordsS e)) := by
  obtain ⟨h1, h2, h3, h4, h5, h6, h7, h8⟩ := he
  have hl := words_len h8
  unfold event_write
  rw [h, ← Option.bind_assoc, fields6, obs]
  have hw : ∀ (i : Nat) (h : i < (patS 6).length) (h' : i < (wordsS e).length), event_spell e (patS 6)[i] = some (wordsS e)[i] := by
    rw [wordsS_6 h]
    intro i hi hi'
    match i, hi with
    | 0, _ => exact sp_lit e (by decide) (by decide) (by decide)
    | 1, _ => exact sp_num (m := 111) h2 rfl rfl
    | 2, _ => exact sp_lit e (by decide) (by decide) (by decide)
    | 3, _ => exact sp_num (m := 119) h1 rfl rfl
    | i + 4, hi => exact absurd hi (by simp [patS])
  have hL : event_write_L1 e (patS 6) 5 [] 0 = _ := write_L (e := e) (wt := patS 6) (ws := wordsS e) (by decide) (by rw [wordsS_6 h]; rfl) hw 5 0 rfl (by decide)
  rw [show (((((patS 6).length : Int) : Int) - (0)).toNat + 1) = 5 from rfl, hL, obs, line_eq (by omega) hl.2, obs]
theorem event_Right_eq (e : GEvent) : event_Right e = some (rightS e) := by
  by_cases hk : 1 ≤ e.fKind ∧ e.fKind ≤ 6
  · rcases kind_cases hk.1 hk.2 with h | h | h | h | h | h
    · exact right_eq1 h
    · exact right_eq2 h
    · exact right_eq3 h
    · exact right_eq4 h
    · exact right_eq5 h
    · exact right_eq6 h
  · have hr : rightS e = false := by
      cases hr : rightS e with
      | false => rfl
      | true => have := rightS_kind hr; exact absurd ⟨this.1, this.2.1⟩ hk
    have hp : event_pattern e.fKind = some [] := by
      unfold event_pattern
      rw [if_neg (by simp; omega), if_neg (by simp; omega), if_neg (by simp; omega), if_neg (by simp; omega), if_neg (by simp; omega), if_neg (by simp; omega)]
    unfold event_Right
    rw [hp, obs, hr]; rfl
theorem event_write_eq {e : GEvent} (hr : rightS e = true) (he : evIn e) : event_write e = some (tx e) := by
  obtain ⟨k1, k2, _⟩ := rightS_kind hr
  unfold tx
  rw [if_pos hr]
  rcases kind_cases k1 k2 with h | h | h | h | h | h
  · exact write_eq1 h he
  · exact write_eq2 h he
  · exact write_eq3 h he
  · exact write_eq4 h he
  · exact write_eq5 h he
  · exact write_eq6 h he
theorem event_Text_eq {e : GEvent} (he : evIn e) : event_Text e = some (tx e) := by
  unfold event_Text
  rw [event_Right_eq, obs]
  cases hr : rightS e with
  | false => unfold tx; rw [hr]; rfl
  | true => rw [if_neg (by simp), event_write_eq hr he, obs]
theorem tx_len {e : GEvent} (he : evIn e) : (tx e).length ≤ 10010 := by
  unfold tx
  split
  · have h := words_len he.2.2.2.2.2.2.2
    have h2 := jn_len 32 h.2
    have h3 : (wordsS e).length * (1000 + 1) ≤ 10 * (1000 + 1) := Nat.mul_le_mul_right _ h.1
    omega
  · simp
def allS (l : List GEvent) : List UInt8 := (l.map fun e => if rightS e = true then tx e ++ [10] else []).flatten
theorem allS_take {l : List GEvent} {k : Nat} (h : k < l.length) : allS (l.take (k + 1)) = allS (l.take k) ++ (if rightS l[k] = true then tx l[k] ++ [10] else []) := by
  unfold allS
  rw [List.take_add_one, List.getElem?_eq_getElem h, List.map_append, List.flatten_append]
  simp only [Option.toList_some, List.map_cons, List.map_nil, List.flatten_cons, List.flatten_nil, List.append_nil]
theorem allS_len {l : List GEvent} (hl : ∀ e ∈ l, evIn e) : (allS l).length ≤ l.length * 10011 := by
  induction l with
  | nil => simp [allS]
  | cons e l ih =>
    have h1 := tx_len (hl e (by simp))
    have h2 := ih (fun x hx => hl x (by simp [hx]))
    have e1 : allS (e :: l) = (if rightS e = true then tx e ++ [10] else []) ++ allS l := by simp [allS]
    rw [e1, List.length_append, List.length_cons, Nat.add_mul]
    split
    · rw [List.length_append, List.length_singleton]; omega
    · rw [List.length_nil]; omega
theorem bytesL_app (a b : List UInt8) : bytesL (a ++ b) = bytesL a ++ bytesL b := by simp [bytesL]
theorem bytesL_len (a : List UInt8) : (bytesL a).length = a.length := by simp [bytesL]
theorem room_big {n : Int} (h : n ≤ 100000000) : room n 1 = some () := by unfold room; rw [if_pos (by omega)]
theorem all_step {l : List GEvent} {k : Nat} (hl : l.length ≤ 1000) (he : ∀ e ∈ l, evIn e) (h : k < l.length) : (allS (l.take k)).length ≤ 10011000 ∧ (tx l[k]).length ≤ 10010 := by
  refine ⟨?_, tx_len (he _ (List.getElem_mem h))⟩
  have h1 := allS_len (l := l.take k) (fun e hx => he e (List.mem_of_mem_take hx))
  have h2 : (l.take k).length * 10011 ≤ 1000 * 10011 := Nat.mul_le_mul_right _ (by rw [List.length_take]; omega)
  omega
theorem all_L {l : List GEvent} (hl : l.length ≤ 1000) (he : ∀ e ∈ l, evIn e) : ∀ (n k : Nat), n + k = l.length + 1 → k ≤ l.length → event_All_L1 l n (bytesL (allS (l.take k))) (k : Int) = some (bytesL (allS l))
  | 0, k, h, hk => by omega
  | n + 1, k, h, hk => by
    unfold event_All_L1
    by_cases hlt : k < l.length
    · obtain ⟨b1, b2⟩ := all_step hl he hlt
      have ih := all_L hl he n (k + 1) (by omega) (by omega)
      rw [allS_take hlt, bytesL_app] at ih
      rw [if_pos (by rw [decide_eq_true_eq]; omega), idx_lt hlt, obs, event_Right_eq, obs, w64_succ hlt (by omega)]
      cases hr : rightS l[k] with
      | false =>
        rw [hr, if_neg (by simp)] at ih
        rw [if_neg (by simp), obs]
        simpa [bytesL] using ih
      | true =>
        rw [hr, if_pos rfl, bytesL_app] at ih
        rw [if_pos rfl, event_write_eq hr (he _ (List.getElem_mem hlt)), obs, room_big (by rw [bytesL_len]; omega), obs, room_big (by rw [List.length_append, bytesL_len, bytesL_len]; omega), obs, obs, List.append_assoc]
        exact ih
    · rw [if_neg (by rw [decide_eq_true_eq]; omega), List.take_of_length_le (by omega)]
theorem event_All_eq {l : List GEvent} (hl : l.length ≤ 1000) (he : ∀ e ∈ l, evIn e) : event_All l = some (allS l) := by
  unfold event_All
  have h : event_All_L1 l (l.length + 1) [] 0 = _ := all_L hl he (l.length + 1) 0 (by omega) (by omega)
  rw [show ((((l.length : Int) : Int) - (0)).toNat + 1) = l.length + 1 by omega, h, obs, strB_bytes, obs]
theorem rall_L {l : List GEvent} (hl : l.length ≤ 1000) (he : ∀ e ∈ l, evIn e) : ∀ (n k : Nat), n + k = l.length + 1 → k ≤ l.length → ref42_All_L1 l n (allS (l.take k)) (k : Int) = some (allS l)
  | 0, k, h, hk => by omega
  | n + 1, k, h, hk => by
    unfold ref42_All_L1
    by_cases hlt : k < l.length
    · obtain ⟨b1, b2⟩ := all_step hl he hlt
      have ih := rall_L hl he n (k + 1) (by omega) (by omega)
      rw [allS_take hlt] at ih
      rw [if_pos (by rw [decide_eq_true_eq]; omega), idx_lt hlt, obs, ref42_Right_eq, obs, w64_succ hlt (by omega)]
      cases hr : rightS l[k] with
      | false =>
        rw [hr, if_neg (by simp), List.append_nil] at ih
        rw [if_neg (by simp), obs]
        exact ih
      | true =>
        rw [hr, if_pos rfl] at ih
        rw [if_pos rfl, obs, ref42_Text_eq (he _ (List.getElem_mem hlt)), obs, room_big (by simp; omega), obs, room_big (by rw [List.length_append]; simp; omega), obs, obs]
        exact ih
    · rw [if_neg (by rw [decide_eq_true_eq]; omega), List.take_of_length_le (by omega)]
theorem ref42_All_eq {l : List GEvent} (hl : l.length ≤ 1000) (he : ∀ e ∈ l, evIn e) : ref42_All l = some (allS l) := by
  unfold ref42_All
  have h : ref42_All_L1 l (l.length + 1) [] 0 = _ := rall_L hl he (l.length + 1) 0 (by omega) (by omega)
  rw [show ((((l.length : Int) : Int) - (0)).toNat + 1) = l.length + 1 by omega, h, obs]

theorem ev_good {e : GEvent} (h : goodGEvent e) (hn : e.fName.length ≤ 1000) : evIn e := by
  obtain ⟨_, h2, h3, _, h5, h6, h7, h8, h9⟩ := h
  exact ⟨h2, h3, h5.2, h6, h7, h8, h9, hn⟩
theorem textLoop {l : List GEvent} (hl : l.length ≤ 1000) : ∀ (n k : Nat), n + k = l.length + 1 → k ≤ l.length → law42_EventText_L1 l n (k : Int) = some (.stop true) ∨ (law42_EventText_L1 l n (k : Int) = some (.next ()) ∧ ∀ e ∈ l.drop k, e.fName.length ≤ 60)
  | 0, k, h, hk => by omega
  | n + 1, k, h, hk => by
    unfold law42_EventText_L1
    by_cases hlt : k < l.length
    · rw [if_pos (by rw [decide_eq_true_eq]; omega), idx_lt hlt, obs, awake42, obs, w64_succ hlt (by omega)]
      by_cases hn : (l[k].fName.length : Int) > 60
      · rw [if_pos (by simpa using hn)]; exact .inl rfl
      · rw [if_neg (by simpa using hn)]
        rcases textLoop hl n (k + 1) (by omega) (by omega) with h1 | ⟨h1, h2⟩
        · exact .inl h1
        · refine .inr ⟨h1, fun e he => ?_⟩
          rw [List.drop_eq_getElem_cons hlt] at he
          rcases List.mem_cons.1 he with rfl | he
          · omega
          · exact h2 e he
    · rw [if_neg (by rw [decide_eq_true_eq]; omega)]
      exact .inr ⟨rfl, fun e he => by rw [List.drop_of_length_le (by omega)] at he; cases he⟩
theorem law42_EventText_true {a0 : GEvent} {a1 : List GEvent} (h0 : goodGEvent a0) (h1 : listok (fun y => goodGEvent y) a1) : law42_EventText a0 a1 = some true := by
  unfold law42_EventText
  rw [awake42]
  by_cases g0 : (a1.length : Int) > 100
  · rw [if_pos (by simpa using g0), obs, if_pos rfl, obs]
  · rw [if_neg (by simpa using g0), obs]
    by_cases g1 : (a0.fName.length : Int) > 60
    · rw [if_pos (by simpa using g1), obs]
    · rw [if_neg (by simpa using g1), show ((((a1.length : Int) : Int) - (0)).toNat + 1) = a1.length + 1 by omega]
      have hL := textLoop (l := a1) (by omega) (a1.length + 1) 0 (by omega) (by omega)
      rw [List.drop_zero] at hL
      rcases hL with hL | ⟨hL, hn⟩
      · have hL' : law42_EventText_L1 a1 (a1.length + 1) 0 = some (.stop true) := hL
        rw [hL', obs]; rfl
      · have hL' : law42_EventText_L1 a1 (a1.length + 1) 0 = some (.next ()) := hL
        have e0 := ev_good h0 (by omega)
        have e1 : ∀ e ∈ a1, evIn e := fun e he => ev_good (h1.2 e he) (by have := hn e he; omega)
        rw [hL', obs]
        show Option.bind (event_Right a0) _ = _
        rw [event_Right_eq, obs, ref42_Right_eq, obs, if_pos (by simp), event_Text_eq e0, obs, ref42_Text_eq e0, obs, if_pos (by simp), event_All_eq (by omega) e1, obs, ref42_All_eq (by omega) e1, obs, if_pos (by simp), obs]


end Go.Proofs.YtccladleehbmhaaDoor
