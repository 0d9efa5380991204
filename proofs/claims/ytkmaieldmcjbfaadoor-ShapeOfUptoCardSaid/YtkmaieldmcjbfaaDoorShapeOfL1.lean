/- A part of the proof that the law ShapeOf gives true for every input. -/
import Derived.Test.YtkmaieldmcjbfaaDoorShapeOfA2
import Derived.Test.YtkmaieldmcjbfaaDoorShapeOfA3
import Derived.Test.YtkmaieldmcjbfaaDoorShapeOfT
import Derived.Test.YtkmaieldmcjbfaaDoorShapeOfD
/- The plain law. -/
namespace Go.Proofs.YtkmaieldmcjbfaaDoor
open Go.RowKit Go.Abs
/-! ### Letters, digits, numbers. -/
theorem fuel_len' (m : Nat) : (((m : Int) : Int) - (0)).toNat + 1 = m + 1 := by omega
theorem letter_eq (b : UInt8) : word_Letter (b.toNat : Int) = ref02_Letter (b.toNat : Int) := by
  have : ∀ k : Fin 256, word_Letter (k.val : Int) = ref02_Letter (k.val : Int) := by decide +kernel
  exact this ⟨b.toNat, b.toNat_lt⟩
def isD (b : UInt8) : Bool := decide (48 ≤ b.toNat ∧ b.toNat ≤ 57)
theorem digit_eq (b : UInt8) : word_Digit (b.toNat : Int) = some (isD b) ∧ ref02_Digit (b.toNat : Int) = some (isD b) := by
  have : ∀ k : Fin 256, word_Digit (k.val : Int) = some (decide (48 ≤ k.val ∧ k.val ≤ 57)) ∧ ref02_Digit (k.val : Int) = some (decide (48 ≤ k.val ∧ k.val ≤ 57)) := by decide +kernel
  exact this ⟨b.toNat, b.toNat_lt⟩
/-! ### The words of the language, and names. -/
def findS (s : List UInt8) : Int := match glob_0.findIdx? (fun y => y == s) with | some i => ((i : Nat) : Int) + 1 | none => 0
theorem findS_nn (s : List UInt8) : 0 ≤ findS s ∧ findS s ≤ 23 := by
  unfold findS
  split
  · rename_i i h
    have := (List.findIdx?_eq_some_iff_getElem.1 h).1
    have e : glob_0.length = 23 := rfl
    omega
  · omega
theorem word_Find_eq (s : List UInt8) : word_Find s = some (findS s) := by
  unfold word_Find word_is slices_IndexFunc_string
  rw [obs, findL (slices_IndexFunc_string_L1 glob_0 (fun z3 => word_is_1 z3 s)) (b := fun y => y == s) (by decide) (fun n x => by simp only [slices_IndexFunc_string_L1, word_is_1, obs]), obs, find_any, obs]
  have h := findS_nn s
  unfold findS at *
  cases hf : glob_0.findIdx? (fun y => y == s) with
  | none => rfl
  | some i => rw [hf] at h; simp only at h ⊢; rw [w64 (by omega) (by omega)]
theorem refFind_L {s : List UInt8} {l : List (List UInt8)} (hl : l.length ≤ 1000) : ∀ (n k : Nat), n + k = l.length + 1 → k ≤ l.length → ref02_Find_L1 s l n (k : Int) = some (match (l.drop k).findIdx? (fun y => y == s) with | some i => .stop (((k + i : Nat) : Int) + 1) | none => .next ())
  | 0, k, h, hk => by omega
  | n + 1, k, h, hk => by
    simp only [ref02_Find_L1]
    by_cases hlt : k < l.length
    · rw [if_pos (by simpa using hlt), idx_lt hlt, List.drop_eq_getElem_cons hlt, obs, List.findIdx?_cons, w64_succ hlt (by omega)]
      cases hb : l[k] == s with
      | true => simp
      | false =>
        rw [if_neg (by simp), refFind_L hl n (k + 1) (by omega) (by omega)]
        cases (l.drop (k + 1)).findIdx? (fun y => y == s) with
        | none => simp
        | some i => simp; omega
    · rw [if_neg (by simpa using hlt), List.drop_eq_nil_of_le (by omega)]
      rfl
theorem ref02_Find_eq (s : List UInt8) : ref02_Find s = some (findS s) := by
  unfold ref02_Find ref02_Words
  rw [obs]
  have h := refFind_L (s := s) (l := glob_0) (by decide) 24 0 (by decide) (by decide)
  have e : (show List (List UInt8) from glob_0).length = 23 := rfl
  show Option.bind (ref02_Find_L1 s glob_0 24 ((0 : Nat) : Int)) _ = _
  rw [h, obs, List.drop_zero]
  unfold findS
  cases glob_0.findIdx? (fun y => y == s) with
  | none => rfl
  | some i => simp [Ctl.elim]
/-! Names. -/
def isL (b : UInt8) : Bool := (word_Letter (b.toNat : Int)).getD false
theorem letter_some (a : Int) : word_Letter a = some ((word_Letter a).getD false) := by unfold word_Letter; split <;> rfl
theorem word_L (b : UInt8) : word_Letter (b.toNat : Int) = some (isL b) := letter_some _
theorem ref02_L (b : UInt8) : ref02_Letter (b.toNat : Int) = some (isL b) := by rw [← letter_eq]; exact word_L b
def isC (b : UInt8) : Bool := isL b || isD b
def nameS (s : List UInt8) : Bool := match s with
  | [] => false
  | b :: t => decide (t.length < 20) && (isL b && ((b :: t).all isC && findS (b :: t) == 0))
theorem idx_bytes {s : List UInt8} {k : Nat} (h : k < s.length) : idx (bytesL s) (k : Int) = some (s[k].toNat : Int) := by
  have hb : k < (bytesL s).length := by simp [bytesL]; exact h
  rw [idx_lt hb]; simp [bytesL]
theorem wName_L {s : List UInt8} (hs : s.length ≤ 1000) : ∀ (n k : Nat), n + k = s.length + 1 → k ≤ s.length → word_Name_L1 s n (k : Int) = some (if (s.drop k).all isC = true then .next () else .stop false)
  | 0, k, h, hk => by omega
  | n + 1, k, h, hk => by
    have hb : (bytesL s).length = s.length := by simp [bytesL]
    simp only [word_Name_L1, hb]
    by_cases hlt : k < s.length
    · rw [if_pos (by simpa using hlt), idx_bytes hlt, obs, word_L, obs, (digit_eq s[k]).1, List.drop_eq_getElem_cons hlt, w64_succ hlt (by omega), wName_L hs n (k + 1) (by omega) (by omega)]
      simp only [List.all_cons, isC]
      rcases Bool.eq_false_or_eq_true (isL s[k]) with h1 | h1 <;> rcases Bool.eq_false_or_eq_true (isD s[k]) with h2 | h2 <;> simp [obs, h1, h2]
    · rw [if_neg (by simpa using hlt), List.drop_eq_nil_of_le (by omega)]; rfl
theorem rName_L {s : List UInt8} (hs : s.length ≤ 1000) : ∀ (n k : Nat), n + k = s.length + 1 → k ≤ s.length → ref02_Name_L1 s n (k : Int) = some (if (s.drop k).all isC = true then .next () else .stop false)
  | 0, k, h, hk => by omega
  | n + 1, k, h, hk => by
    simp only [ref02_Name_L1]
    by_cases hlt : k < s.length
    · rw [if_pos (by simpa using hlt), idx_lt hlt, obs, ref02_L, obs, obs, (digit_eq s[k]).2, List.drop_eq_getElem_cons hlt, w64_succ hlt (by omega), rName_L hs n (k + 1) (by omega) (by omega)]
      simp only [List.all_cons, isC]
      rcases Bool.eq_false_or_eq_true (isL s[k]) with h1 | h1 <;> rcases Bool.eq_false_or_eq_true (isD s[k]) with h2 | h2 <;> simp [obs, h1, h2]
    · rw [if_neg (by simpa using hlt), List.drop_eq_nil_of_le (by omega)]; rfl
theorem word_Name_eq (s : List UInt8) : word_Name s = some (nameS s) := by
  unfold word_Name nameS
  match s with
  | [] => rfl
  | b :: t =>
    have hi : idx (b :: t) 0 = some b := rfl
    have hb : (bytesL (b :: t)).length = (b :: t).length := by simp [bytesL]
    by_cases h20 : t.length < 20
    · have e0 : ((b :: t) == ([] : List UInt8)) = false := rfl
      have e1 : decide (((b :: t).length : Int) > 20) = false := by simp; omega
      rw [e0, e1, hi, if_neg (by simp), if_neg (by simp), obs, word_L, obs, obs]
      cases hL : isL b with
      | false => simp [hL]
      | true =>
        rw [if_neg (by simp), room_ok (by simp; omega), obs, hb, fuel_len', show (0 : Int) = ((0 : Nat) : Int) from rfl, wName_L (by simp; omega) _ 0 (by omega) (by omega), obs, List.drop_zero]
        cases hA : (b :: t).all isC with
        | false => rw [if_neg (by simp)]; simp [Ctl.elim, hL, hA]
        | true => rw [if_pos rfl]; simp only [Ctl.elim, word_Find_eq, obs]; simp [h20, hL, hA]
    · have e0 : ((b :: t) == ([] : List UInt8)) = false := rfl
      have e1 : decide (((b :: t).length : Int) > 20) = true := by simp; omega
      rw [e0, e1]
      simp [h20]
theorem ref02_Name_eq (s : List UInt8) : ref02_Name s = some (nameS s) := by
  unfold ref02_Name nameS
  match s with
  | [] => rfl
  | b :: t =>
    have hi : idx (b :: t) 0 = some b := rfl
    have e0 : decide (((b :: t).length : Int) < 1) = false := by simp; omega
    by_cases h20 : t.length < 20
    · have e1 : decide (((b :: t).length : Int) > 20) = false := by simp; omega
      rw [e0, e1, hi, if_neg (by simp), if_neg (by simp), obs, ref02_L, obs, ref02_Find_eq, obs]
      have hn := findS_nn (b :: t)
      cases hL : isL b with
      | false => simp [hL]
      | true =>
        by_cases hf : findS (b :: t) = 0
        · rw [hf, if_neg (by simp), obs, if_neg (by simp), fuel_len', show (0 : Int) = ((0 : Nat) : Int) from rfl, rName_L (by simp; omega) _ 0 (by omega) (by omega), obs, List.drop_zero]
          cases hA : (b :: t).all isC with
          | false => rw [if_neg (by simp)]; simp [Ctl.elim, hL, hA]
          | true => rw [if_pos rfl]; simp [Ctl.elim, h20, hL, hA, hf]
        · rw [if_neg (by simp), obs, if_pos (by simp; omega)]
          simp [hf, hL]
    · have e1 : decide (((b :: t).length : Int) > 20) = true := by simp; omega
      rw [e0, e1]
      simp [h20]
/-! ### Expressions that may be. -/
theorem mG_eq (e : GExpr) : mGExpr e = 1 + mLGExpr e.fKids := by cases e; simp only [mGExpr]
theorem mL_mem : ∀ {l : List GExpr} {x : GExpr}, x ∈ l → mGExpr x ≤ mLGExpr l
  | y :: l, x, h => by
    simp only [mLGExpr]
    rcases List.mem_cons.1 h with rfl | h
    · omega
    · have := mL_mem h; omega
theorem mL_len : ∀ l : List GExpr, l.length ≤ mLGExpr l
  | [] => by simp
  | x :: l => by
    have := mL_len l
    have := mG_eq x
    simp only [mLGExpr, List.length_cons]; omega
theorem kid_lt {e x : GExpr} (h : x ∈ e.fKids) : mGExpr x < mGExpr e := by
  have := mL_mem h
  have := mG_eq e
  omega
theorem kids_len (e : GExpr) : e.fKids.length < mGExpr e := by
  have := mL_len e.fKids
  have := mG_eq e
  omega
theorem idx_mem {α : Type} {l : List α} {x : Int} {y : α} (h : idx l x = some y) : y ∈ l := by
  unfold idx at h
  split at h
  · exact List.mem_of_getElem? h
  · cases h
def kidsS (k : Int) : Int := if 1 ≤ k ∧ k ≤ 5 then 0 else if k = 12 ∨ k = 13 then 1 else if (6 ≤ k ∧ k ≤ 11) ∨ k = 14 then 2 else -1
theorem kinds {k : Int} (h : 1 ≤ k ∧ k ≤ 14) : k = 1 ∨ k = 2 ∨ k = 3 ∨ k = 4 ∨ k = 5 ∨ k = 6 ∨ k = 7 ∨ k = 8 ∨ k = 9 ∨ k = 10 ∨ k = 11 ∨ k = 12 ∨ k = 13 ∨ k = 14 := by omega
theorem expr_kids_eq (k : Int) : expr_kids k = some (kidsS k) := by
  by_cases h : 1 ≤ k ∧ k ≤ 14
  · rcases kinds h with rfl | rfl | rfl | rfl | rfl | rfl | rfl | rfl | rfl | rfl | rfl | rfl | rfl | rfl <;> rfl
  · have hn : ∀ j : Int, 1 ≤ j → j ≤ 14 → (k == j) = false := fun j h1 h2 => by simp; omega
    unfold expr_kids kidsS
    simp only [hn 1 (by omega) (by omega), hn 2 (by omega) (by omega), hn 3 (by omega) (by omega), hn 4 (by omega) (by omega), hn 5 (by omega) (by omega), hn 6 (by omega) (by omega), hn 7 (by omega) (by omega), hn 8 (by omega) (by omega), hn 9 (by omega) (by omega), hn 10 (by omega) (by omega), hn 11 (by omega) (by omega), hn 12 (by omega) (by omega), hn 13 (by omega) (by omega), hn 14 (by omega) (by omega), obs, Bool.false_eq_true, if_false]
    rw [if_neg (by omega), if_neg (by omega), if_neg (by omega)]
def kidOk (k : Int) (x : GExpr) : Bool := if k = 13 then decide (x.fKind = 2) || decide (x.fKind = 3) else if k = 14 then decide (x.fKind = 2) || (decide (x.fKind = 3) || decide (x.fKind = 4)) else true
/-- An expression may be, but for its kids' own make. -/
def headS (e : GExpr) : Bool := decide ((e.fKids.length : Int) = kidsS e.fKind) && ((decide (e.fKind = 1) || decide (e.fNum = 0)) && ((decide (e.fKind = 2) || e.fName == []) && ((!decide (e.fKind = 1) || (decide (e.fNum ≥ 0) && decide (e.fNum ≤ 999999999))) && (!decide (e.fKind = 2) || nameS e.fName))))
def plS (e : GExpr) : Bool := headS e && e.fKids.all (kidOk e.fKind)
theorem contains_eq' {l : List GExpr} (hl : l.length ≤ 1000000) {q : GExpr → Option Bool} {b : GExpr → Bool} (hq : ∀ y, q y = some (b y)) : slices_ContainsFunc_api_Expr l q = some (l.any b) := by
  unfold slices_ContainsFunc_api_Expr slices_IndexFunc_api_Expr
  rw [findL (slices_IndexFunc_api_Expr_L1 l q) (b := b) (by omega) (fun n x => by rw [slices_IndexFunc_api_Expr_L1]; simp only [hq, obs]), obs, find_any, obs, idx_any]
theorem plain_1 (x c : GExpr) : expr_plain_1 x c = some (if x.fKind = 2 then false else if x.fKind = 3 then false else if x.fKind = 4 then decide (c.fKind = 13) else true) := by
  unfold expr_plain_1
  by_cases h2 : x.fKind = 2
  · simp [h2]
  · by_cases h3 : x.fKind = 3
    · simp [h3]
    · by_cases h4 : x.fKind = 4
      · by_cases h5 : c.fKind = 13 <;> simp [h4, h5]
      · simp [h2, h3, h4]
theorem expr_plain_eq {e : GExpr} (hl : e.fKids.length ≤ 1000000) : expr_plain e = some (plS e) := by
  unfold expr_plain plS headS
  rw [expr_kids_eq, obs]
  by_cases h0 : (e.fKids.length : Int) = kidsS e.fKind
  · by_cases h1 : e.fKind = 1
    · have k1 : e.fKids.all (kidOk e.fKind) = true := by simp [kidOk, h1]
      rw [k1]
      by_cases hn : (e.fName == []) = true
      · by_cases g : e.fNum ≥ 0 <;> by_cases g' : e.fNum ≤ 999999999 <;> simp_all [obs] <;> (split <;> simp_all <;> omega)
      · simp_all [obs]
    · by_cases h2 : e.fKind = 2
      · have k1 : e.fKids.all (kidOk e.fKind) = true := by simp [kidOk, h2]
        rw [k1, word_Name_eq]
        by_cases hm : e.fNum = 0 <;> simp_all [obs]
      · by_cases hm : e.fNum = 0
        · by_cases hn : (e.fName == []) = true
          · have hn' : e.fName = [] := by simpa using hn
            by_cases h13 : e.fKind = 13
            · rw [contains_eq' hl (fun y => plain_1 y e)]
              simp only [h0, h13, hm, hn', obs]
              simp
              rw [Bool.eq_iff_iff]
              simp [kidOk]
            · by_cases h14 : e.fKind = 14
              · rw [contains_eq' hl (fun y => plain_1 y e)]
                simp only [h0, h14, hm, hn', obs]
                simp
                rw [Bool.eq_iff_iff]
                simp [kidOk]
              · have k1 : e.fKids.all (kidOk e.fKind) = true := by simp [kidOk, h13, h14]
                rw [k1]
                simp [h0, h1, h2, hm, hn', h13, h14, obs]
          · simp_all [obs]
        · simp_all [obs]
  · simp [h0, obs]
/-- Every part may be. -/
def fS (e : GExpr) : Bool := (preE e).all plS
theorem preEL_all : ∀ l : List GExpr, (preEL l).all plS = l.all fS
  | [] => rfl
  | x :: l => by simp only [preEL, List.all_append, List.all_cons, preEL_all l, fS]
theorem fS_eq (e : GExpr) : fS e = (plS e && e.fKids.all fS) := by
  obtain ⟨k, n, nm, l⟩ := e
  show (preE ⟨k, n, nm, l⟩).all plS = _
  rw [preE, List.all_cons, preEL_all]
mutual
def dE : GExpr → Nat
  | ⟨_, _, _, l⟩ => 1 + dEL l
def dEL : List GExpr → Nat
  | [] => 0
  | x :: l => max (dE x) (dEL l)
end
theorem dE_eq (e : GExpr) : dE e = 1 + dEL e.fKids := by cases e; simp only [dE]
theorem dEL_le : ∀ (l : List GExpr) (m : Nat), dEL l ≤ m ↔ ∀ x ∈ l, dE x ≤ m
  | [], m => by simp [dEL]
  | x :: l, m => by
    have := dEL_le l m
    simp only [dEL, List.mem_cons, forall_eq_or_imp, ← this]
    omega
theorem dE_mG : ∀ (m : Nat) (e : GExpr), mGExpr e ≤ m → dE e ≤ mGExpr e
  | 0, e, h => by have := mG_eq e; omega
  | m + 1, e, h => by
    have h1 := mG_eq e
    rw [dE_eq, h1]
    have : dEL e.fKids ≤ mLGExpr e.fKids := (dEL_le _ _).2 fun x hx => by
      have h2 := mL_mem hx
      have := dE_mG m x (by omega)
      omega
    omega
theorem contains_eqm {l : List GExpr} (hl : l.length ≤ 1000000) {q : GExpr → Option Bool} {b : GExpr → Bool} (hq : ∀ y ∈ l, q y = some (b y)) : slices_ContainsFunc_api_Expr l q = some (l.any b) := by
  unfold slices_ContainsFunc_api_Expr slices_IndexFunc_api_Expr
  rw [findL (slices_IndexFunc_api_Expr_L1 l q) (b := b) (by omega) (fun n x => by
    rw [slices_IndexFunc_api_Expr_L1]
    cases h : idx l x with
    | none => rfl
    | some y => simp only [hq y (idx_mem h), obs]), obs, find_any, obs, idx_any]
theorem expr_deep_eq : ∀ (m n : Nat) (e : GExpr), 2 * m + 2 ≤ n → m ≤ 1000 → mGExpr e ≤ 1000000 → expr_deep n e (m : Int) = some (decide (dE e ≤ m))
  | 0, n + 1, e, _, _, _ => by
    have := dE_eq e
    rw [expr_deep, if_pos (by simp)]
    simp; omega
  | m + 1, n + 2, e, hn, hm, he => by
    have hk := kids_len e
    rw [expr_deep, if_neg (by simp; omega), contains_eqm (b := fun y => !decide (dE y ≤ m)) (by omega) (fun y hy => by
      have := kid_lt hy
      rw [expr_deep_1, show w_i64 (((m + 1 : Nat) : Int) - 1) = (m : Int) by rw [w64 (by omega) (by omega)]; omega, expr_deep_eq m n y (by omega) (by omega) (by omega), obs]), obs]
    congr 1
    rw [Bool.eq_iff_iff]
    have h1 := dEL_le e.fKids m
    have h2 := dE_eq e
    simp
    rw [h2]
    constructor
    · intro h
      have := h1.2 h
      omega
    · intro h
      exact h1.1 (by omega)
theorem ref06_kids_eq {k : Int} (h : 1 ≤ k ∧ k ≤ 14) : ref06_kids k = some (kidsS k) := by
  rcases kinds h with rfl | rfl | rfl | rfl | rfl | rfl | rfl | rfl | rfl | rfl | rfl | rfl | rfl | rfl <;> rfl
theorem runs_right : ∀ l : List GExpr, (∀ x ∈ l, x.fKids.length ≤ 1000000) → runs expr_Right_B1 l () = some (if l.all plS = true then .next () else .stop ())
  | [], _ => rfl
  | x :: l, h => by
    by_cases hp : plS x = true
    · have hx : (x :: l).all plS = l.all plS := by rw [List.all_cons, hp, Bool.true_and]
      simp only [runs, expr_Right_B1, expr_plain_eq (h x (by simp)), obs, hx, hp, Bool.not_true, Bool.false_eq_true, if_false, Ctl.elim]
      exact runs_right l (fun y hy => h y (by simp [hy]))
    · have hx : (x :: l).all plS = false := by rw [List.all_cons, Bool.eq_false_iff.2 hp, Bool.false_and]
      simp only [runs, expr_Right_B1, expr_plain_eq (h x (by simp)), obs, hx, Bool.eq_false_iff.2 hp, Bool.not_false, if_true, Ctl.elim, Bool.false_eq_true, if_false]
mutual
theorem pre_len : ∀ e : GExpr, ∀ x ∈ preE e, x.fKids.length < mGExpr e
  | ⟨k, n, nm, l⟩, x, hx => by
    simp only [preE, List.mem_cons] at hx
    have h1 := mL_len l
    rcases hx with rfl | hx
    · simp only [mGExpr]; omega
    · have := preL_len l x hx
      simp only [mGExpr]; omega
theorem preL_len : ∀ l : List GExpr, ∀ x ∈ preEL l, x.fKids.length < mLGExpr l
  | [], x, hx => by simp [preEL] at hx
  | y :: l, x, hx => by
    simp only [preEL, List.mem_append] at hx
    simp only [mLGExpr]
    rcases hx with hx | hx
    · have := pre_len y x hx; omega
    · have := preL_len l x hx; omega
end
def rightS (e : GExpr) : Bool := decide (dE e ≤ 20) && fS e
theorem expr_Right_eq {e : GExpr} (he : mGExpr e ≤ 1000000) : expr_Right e = some (rightS e) := by
  unfold expr_Right rightS expr_all
  rw [show (20 : Int) = ((20 : Nat) : Int) from rfl, expr_deep_eq 20 _ e (by decide) (by omega) he, obs]
  by_cases hd : dE e ≤ 20
  · rw [decide_eq_true hd, if_neg (by simp), obs]
    unfold itR_all
    rw [if_pos he, obs, runs_right _ (fun x hx => by have := pre_len e x hx; omega), obs]
    unfold fS
    by_cases ha : (preE e).all plS = true
    · rw [if_pos ha, ha]; rfl
    · rw [if_neg ha, Bool.eq_false_iff.2 ha]; rfl
  · rw [decide_eq_false hd, if_pos (by simp)]; simp

theorem form_L {e : GExpr} (he : e.fKids.length ≤ 1000000) {rec : GExpr → Option Bool} (hr : ∀ y ∈ e.fKids, rec y = some (fS y)) :
    ref06_form_L1 e rec ((((e.fKids.length : Int) : Int) - (0)).toNat + 1) 0 = some (if e.fKids.any (fun y => !(fS y && kidOk e.fKind y)) = true then .stop false else .next ()) := by
  refine anyL (ref06_form_L1 e rec) (by omega) fun n x => ?_
  rw [ref06_form_L1]
  cases h : idx e.fKids x with
  | none => rfl
  | some y =>
    simp only [obs, hr y (idx_mem h)]
    congr 1
    cases hf : fS y with
    | false => simp [obs]
    | true =>
      by_cases h13 : e.fKind = 13
      · by_cases a : y.fKind = 2
        · simp [h13, a, kidOk, obs]
        · by_cases b : y.fKind = 3
          · simp [h13, b, kidOk, obs]
          · simp [h13, a, b, kidOk, obs]
      · by_cases h14 : e.fKind = 14
        · by_cases a : y.fKind = 2
          · simp [h14, a, kidOk, obs]
          · by_cases b : y.fKind = 3
            · simp [h14, b, kidOk, obs]
            · by_cases c : y.fKind = 4
              · simp [h14, c, kidOk, obs]
              · simp [h14, a, b, c, kidOk, obs]
        · simp [h13, h14, kidOk, obs]
theorem any_form (k : Int) : ∀ l : List GExpr, l.any (fun y => !(fS y && kidOk k y)) = !(l.all (kidOk k) && l.all fS)
  | [] => rfl
  | x :: l => by
    rw [List.any_cons, List.all_cons, List.all_cons, any_form k l]
    cases fS x <;> cases kidOk k x <;> cases l.all (kidOk k) <;> cases l.all fS <;> rfl
theorem ref06_form_eq : ∀ (n : Nat) (e : GExpr), mGExpr e ≤ 1000000 → mGExpr e < n → ref06_form n e = some (fS e)
  | n + 1, e, he, hn => by
    have hk := kids_len e
    have hfl := form_L (e := e) (by omega) (rec := ref06_form n) (fun y hy => ref06_form_eq n y (by have := kid_lt hy; omega) (by have := kid_lt hy; omega))
    rw [ref06_form, hfl, fS_eq, plS]
    rw [any_form]
    generalize e.fKids.all (kidOk e.fKind) = A
    generalize e.fKids.all fS = B
    unfold headS
    by_cases hr : 1 ≤ e.fKind ∧ e.fKind ≤ 14
    · rw [if_neg (by simp; omega), if_neg (by simp; omega), ref06_kids_eq hr, obs]
      by_cases h0 : (e.fKids.length : Int) = kidsS e.fKind
      · by_cases h1 : e.fKind = 1
        · by_cases hn : e.fName = []
          · by_cases g : e.fNum < 0
            · cases A <;> cases B <;> simp [h0, h1, hn, g, obs] <;> omega
            · by_cases g' : e.fNum > 999999999
              · cases A <;> cases B <;> simp [h0, h1, hn, g, g', obs] <;> omega
              · cases A <;> cases B <;> simp [h0, h1, hn, g, g', obs, Ctl.elim] <;> omega
          · cases A <;> cases B <;> simp [h0, h1, hn, obs]
        · by_cases h2 : e.fKind = 2
          · by_cases hm : e.fNum = 0
            · cases hN : nameS e.fName <;> cases A <;> cases B <;> simp [h0, h2, hm, hN, ref02_Name_eq, obs, Ctl.elim]
            · cases A <;> cases B <;> simp [h0, h2, hm, obs]
          · by_cases hm : e.fNum = 0
            · by_cases hn : e.fName = []
              · cases A <;> cases B <;> simp [h0, h1, h2, hm, hn, obs, Ctl.elim]
              · cases A <;> cases B <;> simp [h0, h1, h2, hm, hn, obs]
            · cases A <;> cases B <;> simp [h0, h1, h2, hm, obs]
      · simp [h0, obs]
    · have hk1 : (e.fKids.length : Int) ≠ kidsS e.fKind := by unfold kidsS; rw [if_neg (by omega), if_neg (by omega), if_neg (by omega)]; omega
      by_cases h1 : e.fKind < 1
      · simp [h1, hk1, obs]
      · simp [h1, show e.fKind > 14 by omega, hk1, obs]
theorem deep_L {e : GExpr} (he : e.fKids.length ≤ 1000000) {rec : GExpr → Option Int} (hr : ∀ y ∈ e.fKids, rec y = some (dE y : Int)) :
    ∀ (n k : Nat) (m : Nat), n + k = e.fKids.length + 1 → k ≤ e.fKids.length → ref06_Deep_L1 e rec n (m : Int) (k : Int) = some ((max m (dEL (e.fKids.drop k)) : Nat) : Int)
  | 0, k, m, h, hk => by omega
  | n + 1, k, m, h, hk => by
    rw [ref06_Deep_L1]
    by_cases hlt : k < e.fKids.length
    · rw [if_pos (by simpa using hlt), idx_lt hlt, obs, hr _ (List.getElem_mem hlt), obs, w64_succ hlt (by omega), List.drop_eq_getElem_cons hlt, dEL,
        show (if (dE e.fKids[k] : Int) > (m : Int) then (dE e.fKids[k] : Int) else (m : Int)) = ((max m (dE e.fKids[k]) : Nat) : Int) by split <;> omega, deep_L he hr n (k + 1) _ (by omega) (by omega)]
      congr 2; omega
    · rw [if_neg (by simpa using hlt), List.drop_eq_nil_of_le (by omega), dEL]
      congr 2; omega
theorem ref06_Deep_eq : ∀ (n : Nat) (e : GExpr), mGExpr e ≤ 1000000 → mGExpr e < n → ref06_Deep n e = some (dE e : Int)
  | n + 1, e, he, hn => by
    have hk := kids_len e
    have hd := dE_mG _ e (Nat.le_refl _)
    have h1 := dE_eq e
    have hl : ref06_Deep_L1 e (ref06_Deep n) ((((e.fKids.length : Int) : Int) - (0)).toNat + 1) 0 0 = some ((max 0 (dEL (e.fKids.drop 0)) : Nat) : Int) := deep_L (e := e) (by omega) (rec := ref06_Deep n) (fun y hy => ref06_Deep_eq n y (by have := kid_lt hy; omega) (by have := kid_lt hy; omega)) ((((e.fKids.length : Int) : Int) - (0)).toNat + 1) 0 0 (by omega) (by omega)
    rw [ref06_Deep, hl, obs, List.drop_zero, w64 (by omega) (by omega)]
    congr 1; omega
theorem ref06_Right_eq {e : GExpr} (he : mGExpr e ≤ 1000000) : ref06_Right e = some (rightS e) := by
  unfold ref06_Right rightS
  rw [ref06_form_eq _ e he (by omega), obs]
  cases fS e with
  | false => simp
  | true => rw [if_pos rfl, ref06_Deep_eq _ e he (by omega), obs, Bool.and_true]; simp; omega
theorem size_L {e : GExpr} (he : e.fKids.length ≤ 1000000) {rec : GExpr → Option Int} (hr : ∀ y ∈ e.fKids, ∃ s : Nat, rec y = some (s : Int) ∧ 1 ≤ s ∧ s ≤ mGExpr y ∧ (s < 1000 → s = mGExpr y)) :
    ∀ (n k a : Nat), n + k = e.fKids.length + 1 → k ≤ e.fKids.length → a + mLGExpr (e.fKids.drop k) ≤ 2000000 → ∃ s : Nat, ref06_Size_L1 e rec n (a : Int) (k : Int) = some (s : Int) ∧ a ≤ s ∧ s ≤ a + mLGExpr (e.fKids.drop k) ∧ (s < 1000 → s = a + mLGExpr (e.fKids.drop k))
  | 0, k, a, h, hk, _ => by omega
  | n + 1, k, a, h, hk, hb => by
    rw [ref06_Size_L1]
    by_cases hlt : k < e.fKids.length
    · rw [if_pos (by simpa using hlt), obs]
      rw [List.drop_eq_getElem_cons hlt, mLGExpr] at hb ⊢
      by_cases ha : a < 1000
      · obtain ⟨s, h1, h2, h3, h4⟩ := hr _ (List.getElem_mem hlt)
        obtain ⟨t, k1, k2, k3, k4⟩ := size_L he hr n (k + 1) (a + s) (by omega) (by omega) (by omega)
        rw [if_pos (by simp; omega), idx_lt hlt, obs, h1, obs, w64_succ hlt (by omega), w64 (by omega) (by omega), show (a : Int) + (s : Int) = ((a + s : Nat) : Int) by omega, k1]
        exact ⟨t, rfl, by omega, by omega, by omega⟩
      · rw [if_neg (by simp; omega)]
        exact ⟨a, rfl, by omega, by omega, by omega⟩
    · rw [if_neg (by simpa using hlt), obs, if_neg (by simp), List.drop_eq_nil_of_le (by omega), mLGExpr]
      exact ⟨a, rfl, by omega, by omega, by omega⟩
theorem ref06_Size_eq : ∀ (n : Nat) (e : GExpr), mGExpr e ≤ 1000000 → mGExpr e < n → ∃ s : Nat, ref06_Size n e = some (s : Int) ∧ 1 ≤ s ∧ s ≤ mGExpr e ∧ (s < 1000 → s = mGExpr e)
  | n + 1, e, he, hn => by
    have hk := kids_len e
    have h1 := mG_eq e
    obtain ⟨s, k1, k2, k3, k4⟩ := size_L (e := e) (by omega) (rec := ref06_Size n) (fun y hy => ref06_Size_eq n y (by have := kid_lt hy; omega) (by have := kid_lt hy; omega)) (e.fKids.length + 1) 0 1 (by omega) (by omega) (by rw [List.drop_zero]; omega)
    rw [List.drop_zero] at k3 k4
    exact ⟨s, by rw [ref06_Size, show (1 : Int) = ((1 : Nat) : Int) from rfl, show (0 : Int) = ((0 : Nat) : Int) from rfl, k1, obs], by omega, by omega, by omega⟩

/-! ### This. -/
def thisL (m : Nat) : List GOwner := ⟨2, 0⟩ :: (List.range m).map fun (k : Nat) => ⟨3, (k : Int) + 1⟩
/-! ### Variables of a method. -/
def mkC (m : Nat) : GClass := { zGClass with fParams := List.replicate m [] }
theorem rT_len {a b : GClass} (h : a.fParams.length = b.fParams.length) : ∀ (n : Nat) (x : List GOwner) (y : Int), raise_This_L1 a n x y = raise_This_L1 b n x y
  | 0, _, _ => rfl
  | n + 1, x, y => by simp only [raise_This_L1, h, rT_len h n]
theorem r15T_len {a b : GClass} (h : a.fParams.length = b.fParams.length) : ∀ (n : Nat) (x : List GOwner) (y : Int), ref15_This_L1 a n x y = ref15_This_L1 b n x y
  | 0, _, _ => rfl
  | n + 1, x, y => by simp only [ref15_This_L1, h, r15T_len h n]
theorem rT_all : ∀ m : Nat, m ≤ 60 → raise_This (mkC m) = some (thisL m) ∧ ref15_This (mkC m) = some (thisL m) := by
  have h : ∀ m : Fin 61, raise_This (mkC m.val) = some (thisL m.val) ∧ ref15_This (mkC m.val) = some (thisL m.val) := by decide +kernel
  exact fun m hm => h ⟨m, by omega⟩
theorem raise_This_eq {c : GClass} (h : c.fParams.length ≤ 60) : raise_This c = some (thisL c.fParams.length) ∧ ref15_This c = some (thisL c.fParams.length) := by
  have hl : c.fParams.length = (mkC c.fParams.length).fParams.length := by simp [mkC]
  obtain ⟨h1, h2⟩ := rT_all _ h
  unfold raise_This at h1 ⊢
  unfold ref15_This at h2 ⊢
  refine ⟨?_, ?_⟩
  · rw [← h1, ← hl]
    simp only [rT_len hl]
  · rw [← h2, ← hl]
    simp only [r15T_len hl]
def zero4 : A4 GOwner := ⟨zGOwner, zGOwner, zGOwner, zGOwner⟩
def thisT (c : GClass) : GType := { fKind := 2, fClass := c.fName, fN := if c.fParams.length < 3 then (c.fParams.length : Int) else 3, fOwn := A4.cp zero4 (thisL c.fParams.length) }
theorem thisL_len (m : Nat) : (thisL m).length = m + 1 := by simp [thisL]
theorem scope_This_eq {c : GClass} (h : c.fParams.length ≤ 60) : scope_This c = some (thisT c) := by
  unfold scope_This thisT
  rw [(raise_This_eq h).1, obs]
  congr 2
  rw [List.length_map, thisL_len]
  by_cases h3 : c.fParams.length < 3
  · rw [if_pos h3, show Nat.min (c.fParams.length + 1) 4 = c.fParams.length + 1 from Nat.min_eq_left (by omega), show ((c.fParams.length + 1 : Nat) : Int) - 1 = (c.fParams.length : Int) by omega, w64 (by omega) (by omega)]; rfl
  · rw [if_neg h3, show Nat.min (c.fParams.length + 1) 4 = 4 from Nat.min_eq_right (by omega)]; rfl
theorem thisL_3 (m : Nat) : ∃ r, thisL (m + 3) = ⟨2, 0⟩ :: ⟨3, 1⟩ :: ⟨3, 2⟩ :: ⟨3, 3⟩ :: r := by
  refine ⟨(thisL (m + 3)).drop 4, ?_⟩
  simp only [thisL, List.range_succ_eq_map, List.map_cons, List.map_map, List.drop_succ_cons, List.drop_zero]
  rfl
theorem ref18_This_eq {c : GClass} (h : c.fParams.length ≤ 60) : ref18_This c = some (thisT c) := by
  unfold ref18_This thisT
  rw [(raise_This_eq h).2, obs]
  have hm : c.fParams.length = 0 ∨ c.fParams.length = 1 ∨ c.fParams.length = 2 ∨ 3 ≤ c.fParams.length := by omega
  rcases hm with e | e | e | e
  · rw [e]; rfl
  · rw [e]; rfl
  · rw [e]; rfl
  · obtain ⟨k, hk⟩ : ∃ k, c.fParams.length = k + 3 := ⟨c.fParams.length - 3, by omega⟩
    obtain ⟨r, hr⟩ := thisL_3 k
    rw [hk, hr, if_neg (by omega), if_neg (by omega)]
    rfl
def varsS (m : GMethod) : List GVar := m.fParams ++ m.fLocals
theorem ref12_Vars_eq {m : GMethod} (h1 : m.fParams.length ≤ 100) (h2 : m.fLocals.length ≤ 100) : ref12_Vars m = some (varsS m) := by
  unfold ref12_Vars varsS
  rw [room_ok (by simp; omega), obs, room_ok (by simp; omega), obs]
  rfl
theorem arena_Vars_eq {m : GMethod} (h1 : m.fParams.length ≤ 100) (h2 : m.fLocals.length ≤ 100) : arena_Vars m = some (varsS m) := by
  unfold arena_Vars varsS slices_Concat_api_Var
  generalize m.fParams = p at *
  generalize m.fLocals = l at *
  have hL2 : ([p, l] : List (List GVar)).length = 2 := rfl
  have e1 : slices_Concat_api_Var_L1 [p, l] (((([p, l] : List (List GVar)).length : Int) - (0)).toNat + 1) 0 0 = some ((p.length : Int) + (l.length : Int)) := by
    have w1 : w_i64 (0 + (p.length : Int)) = (p.length : Int) := by rw [w64 (by omega) (by omega)]; omega
    have w2 : w_i64 ((p.length : Int) + (l.length : Int)) = (p.length : Int) + (l.length : Int) := w64 (by omega) (by omega)
    have i0 : idx [p, l] 0 = some p := rfl
    have i1 : idx [p, l] (w_i64 (0 + 1)) = some l := rfl
    have k2 : w_i64 (w_i64 (0 + 1) + 1) = 2 := rfl
    have k1 : w_i64 (0 + 1) = 1 := rfl
    have n0 : ¬ ((p.length : Int) < 0) := by omega
    have n1 : ¬ ((p.length : Int) + (l.length : Int) < 0) := by omega
    show slices_Concat_api_Var_L1 [p, l] (2 + 1) 0 0 = _
    simp only [slices_Concat_api_Var_L1, hL2]
    rw [if_pos (by decide), i0, obs, w1, if_neg (by simp), if_pos (by decide), i1, obs, w2, if_neg (by simpa using n1), if_neg (by decide)]
  have e2 : slices_Grow_api_Var ((p.length : Int) + (l.length : Int)) = some [] := by
    unfold slices_Grow_api_Var
    rw [if_neg (by simp; omega), show w_i64 (0 - 0) = 0 from rfl, Int.sub_zero, w64 (by omega) (by omega)]
    by_cases h0 : (p.length : Int) + (l.length : Int) > 0
    · have hz : zerOk ((p.length : Int) + (l.length : Int)) 120 = some () := by unfold zerOk; rw [if_pos ⟨by omega, by omega⟩]
      have hc : cutL (List.replicate ((p.length : Int) + (l.length : Int)).toNat zGVar) 0 0 = some [] := by
        unfold cutL
        rw [if_pos ⟨by omega, by omega, by simp; omega⟩]; simp
      rw [if_pos (by simpa using h0), hz, obs, hc, obs]
    · rw [if_neg (by simpa using h0)]
  have e3 : slices_Concat_api_Var_L2 [p, l] (((([p, l] : List (List GVar)).length : Int) - (0)).toNat + 1) [] 0 = some (p ++ l) := by
    have i0 : idx [p, l] 0 = some p := rfl
    have i1 : idx [p, l] (w_i64 (0 + 1)) = some l := rfl
    show slices_Concat_api_Var_L2 [p, l] (2 + 1) [] 0 = _
    simp only [slices_Concat_api_Var_L2, hL2]
    rw [if_pos (by decide), i0, obs, room_ok (by simp; omega), obs, if_pos (by decide), i1, obs, room_ok (by simp; omega), obs, if_neg (by decide)]
    simp
  rw [e1, obs, e2, obs, e3, obs, obs]
def isV (name : List UInt8) (v : GVar) : Bool := v.fName == name
def placeS (m : GMethod) (name : List UInt8) : Int := match (varsS m).findIdx? (isV name) with | some i => (i : Int) | none => -1
theorem idxV {l : List GVar} (hl : l.length ≤ 1000) (name : List UInt8) : slices_IndexFunc_api_Var l (fun (z4 : GVar) => scope_Place_1 z4 name) = some (match l.findIdx? (isV name) with | some i => (i : Int) | none => -1) := by
  unfold slices_IndexFunc_api_Var
  rw [findL (slices_IndexFunc_api_Var_L1 l (fun (z4 : GVar) => scope_Place_1 z4 name)) (b := isV name) (by omega) (fun n x => by rw [slices_IndexFunc_api_Var_L1]; rfl), obs]
  cases l.findIdx? (isV name) <;> rfl
theorem scope_Place_eq {m : GMethod} (h1 : m.fParams.length ≤ 100) (h2 : m.fLocals.length ≤ 100) (name : List UInt8) : scope_Place m name = some (placeS m name) := by
  unfold scope_Place placeS varsS
  rw [idxV (by omega), obs, idxV (by omega), List.findIdx?_append]
  cases hp : m.fParams.findIdx? (isV name) with
  | some i => simp
  | none =>
    cases hl : m.fLocals.findIdx? (isV name) with
    | none => simp
    | some j =>
      have := (List.findIdx?_eq_some_iff_getElem.1 hl).1
      have e1 : ¬ ((-1 : Int) ≥ 0) := by omega
      have e2 : ¬ ((j : Int) < 0) := by omega
      simp only [decide_eq_false e1, decide_eq_false e2, Bool.false_eq_true, if_false, obs]
      rw [w64 (by omega) (by omega)]
      simp; omega
theorem ref18_Place_eq {m : GMethod} (h1 : m.fParams.length ≤ 100) (h2 : m.fLocals.length ≤ 100) (name : List UInt8) : ref18_Place m name = some (placeS m name) := by
  unfold ref18_Place placeS
  have hl : (varsS m).length ≤ 1000 := by unfold varsS; simp; omega
  rw [ref12_Vars_eq h1 h2, obs, findL (ref18_Place_L1 name (varsS m)) (b := isV name) (by omega) (fun n x => by rw [ref18_Place_L1]; rfl), obs]
  cases (varsS m).findIdx? (isV name) <;> rfl
theorem placeS_lt {m : GMethod} {name : List UInt8} (h : ¬ placeS m name < 0) : ∃ v, idx (varsS m) (placeS m name) = some v := by
  unfold placeS at *
  cases hf : (varsS m).findIdx? (isV name) with
  | none => rw [hf] at h; simp at h
  | some i =>
    have hlt := (List.findIdx?_eq_some_iff_getElem.1 hf).1
    exact ⟨_, idx_lt hlt⟩
theorem scope_Type_eq {c : GClass} {m : GMethod} (hc : c.fParams.length ≤ 60) (h1 : m.fParams.length ≤ 100) (h2 : m.fLocals.length ≤ 100) (name : List UInt8) : ∃ r, scope_Type c m name = some r ∧ ref18_Type c m name = some r := by
  unfold scope_Type ref18_Type
  rw [scope_This_eq hc, ref18_This_eq hc, scope_Place_eq h1 h2, ref18_Place_eq h1 h2, arena_Vars_eq h1 h2, ref12_Vars_eq h1 h2]
  by_cases hn : (name == [116, 104, 105, 115]) = true
  · rw [if_pos hn]; exact ⟨_, rfl, rfl⟩
  · rw [if_neg hn]; simp only [obs]
    by_cases hp : placeS m name < 0
    · rw [if_pos (by simpa using hp)]; exact ⟨_, rfl, rfl⟩
    · obtain ⟨v, hv⟩ := placeS_lt hp
      rw [if_neg (by simpa using hp), hv]; exact ⟨_, rfl, rfl⟩
def uniq (t : GType) : Bool := decide (t.fKind = 2) && decide (t.fOwn.a0.fKind = 6)
theorem kind_Unique_eq (t : GType) : kind_Unique t = some (uniq t) := by
  unfold kind_Unique uniq
  by_cases h : t.fKind = 2
  · rw [if_pos (by simpa using h)]; simp [h]; rfl
  · rw [if_neg (by simpa using h)]; simp [h]

theorem ref05_Unique_eq (t : GType) : ref05_Unique t = some (uniq t) := by
  unfold ref05_Unique uniq
  by_cases h : t.fKind = 2
  · rw [if_pos (by simpa using h)]; simp [h]; rfl
  · rw [if_neg (by simpa using h)]; simp [h]

/-! ### The type of an expression. -/
def zT : GType := { fKind := 0, fClass := [], fN := 0, fOwn := ⟨zGOwner, zGOwner, zGOwner, zGOwner⟩ }
def wantS (k : Int) (t : GType) : Bool := if k = 13 then decide (t.fKind = 2) else if k = 14 then decide (t.fKind = 2) || decide (t.fKind = 3) else decide (t.fKind = 1)
theorem shape_want_eq (k : Int) (t : GType) : shape_want k t = some (wantS k t) := by
  unfold shape_want wantS
  by_cases h : k = 13
  · simp [h]; rfl
  · by_cases h' : k = 14
    · by_cases a : t.fKind = 2 <;> simp [h', a]; rfl
    · simp [h, h']; rfl
theorem ofL {c : GClass} {m : GMethod} {e : GExpr} (he : e.fKids.length ≤ 1000000) {clo : Clo0} {rec : GClass → GMethod → GExpr → Option (GType × Int)} (hr : ∀ y ∈ e.fKids, ∃ r, clo.q y = some r ∧ rec c m y = some r) :
    ∀ (n k u : Nat) (b : Bool), n + k = e.fKids.length + 1 → k ≤ e.fKids.length → u ≤ k → b = (decide (0 < u) && decide (e.fKind = 14)) →
      (∃ v, shape_Of_1_L1 e clo n (u : Int) (k : Int) = some (.stop v) ∧ ref19_of_L1 c m e rec n b (k : Int) = some (.stop v)) ∨
      (∃ (u' : Nat) (b' : Bool), shape_Of_1_L1 e clo n (u : Int) (k : Int) = some (.next (u' : Int)) ∧ ref19_of_L1 c m e rec n b (k : Int) = some (.next b') ∧ b' = (decide (0 < u') && decide (e.fKind = 14)))
  | 0, k, u, b, h, hk, _, _ => by omega
  | n + 1, k, u, b, h, hk, hu, hb => by
    rw [shape_Of_1_L1, ref19_of_L1]
    by_cases hlt : k < e.fKids.length
    · rw [if_pos (by simpa using hlt), if_pos (by simpa using hlt), idx_lt hlt, obs]
      obtain ⟨⟨t, f⟩, h1, h2⟩ := hr _ (List.getElem_mem hlt)
      simp only [obind, h1, h2, obs]
      by_cases hf : f = 0
      · subst hf
        have hw := shape_want_eq e.fKind t
        cases hW : wantS e.fKind t with
        | false =>
          left
          refine ⟨(zT, 14), ?_, ?_⟩
          · simp [obind, Ctl.go, obs, hw, hW, zT]
          · unfold wantS at hW
            by_cases h13 : e.fKind = 13
            · simp [h13] at hW; simp [h13, hW, obs, zT]
            · by_cases h14 : e.fKind = 14
              · simp [h14] at hW; simp [h14, hW.1, hW.2, obs, zT]
              · simp [h13, h14] at hW; simp [h13, h14, hW, obs, zT]
        | true =>
          have ih := ofL he hr n (k + 1) (if uniq t then u + 1 else u) (b || (decide (e.fKind = 14) && uniq t)) (by omega) (by omega) (by split <;> omega) (by
            rw [hb]
            by_cases h14 : e.fKind = 14
            · cases uniq t <;> simp [h14]
            · simp [h14])
          have e1 : (Ctl.go (if uniq t = true then Ctl.next (w_i64 ((u : Int) + 1)) else Ctl.next (u : Int) : Ctl (Option (Ctl (GType × Int) (Int))) (Int)) fun x92 => shape_Of_1_L1 e clo n x92 (w_i64 ((k : Int) + 1))) = shape_Of_1_L1 e clo n (((if uniq t then u + 1 else u : Nat)) : Int) (((k + 1 : Nat)) : Int) := by
            cases uniq t with
            | true => simp only [if_true, Ctl.go]; rw [w64_succ hlt (by omega), w64 (by omega) (by omega)]; rfl
            | false => simp only [Bool.false_eq_true, if_false, Ctl.go]; rw [w64_succ hlt (by omega)]
          have e2 : ∀ (F : Bool → Option (Ctl (GType × Int) Bool)) (G : Option (Ctl (GType × Int) Bool)), (Option.bind (if (e.fKind == 13) = true then some (t.fKind == 2) else some (t.fKind == 1) : Option Bool) fun x79 => Option.bind (if (e.fKind == 14) = true then (if (t.fKind == 2) = true then some true else some (t.fKind == 3)) else some x79 : Option Bool) fun x84 => if (!x84) = true then G else F true) = F true := by
            intro F G
            unfold wantS at hW
            by_cases h13 : e.fKind = 13
            · simp [h13] at hW; simp [h13, hW, obs]
            · by_cases h14 : e.fKind = 14
              · simp [h14] at hW
                rcases hW with hW | hW
                · simp [h14, hW, obs]
                · simp [h14, hW, obs]
              · simp [h13, h14] at hW; simp [h13, h14, hW, obs]
          have e3 : (Option.bind (if b = true then some true else if (e.fKind == 14) = true then Option.bind (ref05_Unique t) fun (y90 : Bool) => some y90 else some false : Option Bool) fun x92 => ref19_of_L1 c m e rec n x92 (w_i64 ((k : Int) + 1))) = ref19_of_L1 c m e rec n (b || (decide (e.fKind = 14) && uniq t)) (((k + 1 : Nat)) : Int) := by
            rw [w64_succ hlt (by omega), ref05_Unique_eq]
            cases b with
            | true => simp [obs]
            | false => by_cases h14 : e.fKind = 14 <;> simp [h14, obs]
          simp only [hw, hW, kind_Unique_eq, obs, obind, beq_self_eq_true, if_true, Bool.not_true, Bool.false_eq_true, if_false, bne_self_eq_false]
          rw [e1]
          rw [e2 (fun _ => Option.bind (if b = true then some true else if (e.fKind == 14) = true then Option.bind (ref05_Unique t) fun (y90 : Bool) => some y90 else some false : Option Bool) fun x92 => ref19_of_L1 c m e rec n x92 (w_i64 ((k : Int) + 1))), e3]
          exact ih
      · left
        refine ⟨(zT, f), ?_, ?_⟩
        · simp [obind, Ctl.go, obs, hf, zT]
        · simp [hf, zT]
    · rw [if_neg (by simpa using hlt), if_neg (by simpa using hlt)]
      exact .inr ⟨u, b, rfl, rfl, hb⟩
theorem shape_of_eq {c : GClass} {m : GMethod} (hc : c.fParams.length ≤ 60) (h1 : m.fParams.length ≤ 100) (h2 : m.fLocals.length ≤ 100) :
    ∀ (n n' : Nat) (e : GExpr), mGExpr e ≤ 1000000 → mGExpr e < n → mGExpr e < n' → ∃ r, (shape_Of_1_knot c m n).q e = some r ∧ ref19_of n' c m e = some r
  | n + 1, n' + 1, e, he, hn, hn' => by
    have hk := kids_len e
    show ∃ r, shape_Of_1 e c m (shape_Of_1_knot c m n) = some r ∧ _
    rw [shape_Of_1, ref19_of]
    by_cases k2 : e.fKind = 2
    · obtain ⟨r, a, b⟩ := scope_Type_eq hc h1 h2 e.fName
      have q2 : (e.fKind == 2) = true := by simpa using k2
      rw [if_pos q2, if_pos q2, a, b]
      simp only [obs]
      cases hr : (!r.2) with
      | true => exact ⟨_, rfl, rfl⟩
      | false => exact ⟨_, rfl, rfl⟩
    · have q2 : ¬ (e.fKind == 2) = true := by simpa using k2
      rw [if_neg q2, if_neg q2]
      by_cases k3 : e.fKind = 3
      · have q3 : (e.fKind == 3) = true := by simpa using k3
        rw [if_pos q3, if_pos q3, scope_This_eq hc, ref18_This_eq hc]
        exact ⟨_, rfl, rfl⟩
      · have q3 : ¬ (e.fKind == 3) = true := by simpa using k3
        rw [if_neg q3, if_neg q3]
        by_cases k4 : e.fKind = 4
        · have q4 : (e.fKind == 4) = true := by simpa using k4
          rw [if_pos q4, if_pos q4]; exact ⟨_, rfl, rfl⟩
        · have q4 : ¬ (e.fKind == 4) = true := by simpa using k4
          rw [if_neg q4, if_neg q4]
          have hl := ofL (c := c) (m := m) (e := e) (by omega) (clo := shape_Of_1_knot c m n) (rec := ref19_of n') (fun y hy => shape_of_eq hc h1 h2 n n' y (by have := kid_lt hy; omega) (by have := kid_lt hy; omega) (by have := kid_lt hy; omega)) ((((e.fKids.length : Int) : Int) - (0)).toNat + 1) 0 0 false (by omega) (by omega) (by omega) (by simp)
          rcases hl with ⟨v, a, b⟩ | ⟨u, b', a, b, hb⟩
          · rw [show shape_Of_1_L1 e (shape_Of_1_knot c m n) ((((e.fKids.length : Int) : Int) - (0)).toNat + 1) 0 0 = _ from a, show ref19_of_L1 c m e (ref19_of n') ((((e.fKids.length : Int) : Int) - (0)).toNat + 1) false 0 = _ from b]
            exact ⟨v, rfl, rfl⟩
          · rw [show shape_Of_1_L1 e (shape_Of_1_knot c m n) ((((e.fKids.length : Int) : Int) - (0)).toNat + 1) 0 0 = _ from a, show ref19_of_L1 c m e (ref19_of n') ((((e.fKids.length : Int) : Int) - (0)).toNat + 1) false 0 = _ from b]
            subst hb
            by_cases hu : 0 < u
            · by_cases h14 : e.fKind = 14 <;> simp [hu, h14, obs, Ctl.elim, ref19_number]
            · have : u = 0 := by omega
              subst this
              simp [obs, Ctl.elim, ref19_number]
theorem shape_Of_eq {c : GClass} {m : GMethod} {e : GExpr} (hc : c.fParams.length ≤ 60) (h1 : m.fParams.length ≤ 100) (h2 : m.fLocals.length ≤ 100) (he : mGExpr e ≤ 1000000) : ∃ r, shape_Of c m e = some r ∧ ref19_Of c m e = some r := by
  unfold shape_Of ref19_Of
  rw [expr_Right_eq he, ref06_Right_eq he, obs, obs]
  cases rightS e with
  | false => exact ⟨_, rfl, rfl⟩
  | true =>
    obtain ⟨r, a, b⟩ := shape_of_eq hc h1 h2 (mGExpr e + 1) (mGClass c + mGMethod m + mGExpr e + 1) e he (by omega) (by omega)
    rw [a, b]
    exact ⟨_, rfl, rfl⟩

theorem law19_awake_eq : law19_awake = some true := by kernel_rfl
theorem five_m : ∀ (n : Nat) (e : GExpr), mGExpr e ≤ n → 5 * mGExpr e ≤ uGExpr e
  | 0, e, h => by have := mG_eq e; omega
  | n + 1, e, h => by
    have h1 := mG_eq e
    have h2 := uGExpr_eq e
    have : ∀ l : List GExpr, (∀ x ∈ l, 5 * mGExpr x ≤ uGExpr x) → 5 * mLGExpr l ≤ lsum uGExpr l := by
      intro l
      induction l with
      | nil => intro _; simp [mLGExpr]
      | cons x l ih =>
        intro hx
        have a := hx x (by simp)
        have b := ih (fun y hy => hx y (by simp [hy]))
        simp only [mLGExpr, lsum]; omega
    have h3 := this e.fKids (fun x hx => five_m n x (by have := kid_lt hx; omega))
    omega
theorem bGType_refl (t : GType) : bGType t t = true := by simp [bGType]
theorem law19_ShapeOf_true {a0 : GClass} {a1 : GMethod} {a2 : GExpr} (_ : goodGClass a0) (_ : goodGMethod a1) (_ : goodGExpr a2) (hb : uGExpr a2 ≤ 1048576) : law19_ShapeOf a0 a1 a2 = some true := by
  have he : mGExpr a2 ≤ 1000000 := by have := five_m _ a2 (Nat.le_refl _); omega
  unfold law19_ShapeOf
  rw [law19_awake_eq]
  by_cases h1 : a1.fParams.length > 60
  · simp [h1, show (60 : Int) < (a1.fParams.length : Int) by omega, obs]
  by_cases h2 : a1.fLocals.length > 60
  · simp [h1, h2, show (60 : Int) < (a1.fLocals.length : Int) by omega, obs]
  by_cases h3 : a0.fParams.length > 60
  · simp [h1, h2, show (60 : Int) < (a0.fParams.length : Int) by omega, obs]
  obtain ⟨s, hs, _⟩ := ref06_Size_eq (mGExpr a2 + 1) a2 he (by omega)
  rw [if_neg (by simp; omega), if_neg (by simp; omega), if_neg (by simp; omega), hs, obs, obs]
  obtain ⟨r, e1, e2⟩ := shape_Of_eq (c := a0) (m := a1) (e := a2) (by omega) (by omega) (by omega) he
  rw [e1, e2]
  by_cases hg : (s : Int) > 200
  · rw [if_pos (by simpa using hg), obs]
  · rw [if_neg (by simpa using hg)]
    simp [obs, bGType_refl]


end Go.Proofs.YtkmaieldmcjbfaaDoor
