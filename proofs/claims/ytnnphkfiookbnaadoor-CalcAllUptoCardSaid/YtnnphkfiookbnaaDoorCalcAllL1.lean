/- A part of the proof that the law CalcAll gives true for every input. -/
import Derived.Test.YtnnphkfiookbnaaDoorCalcAllA2
import Derived.Test.YtnnphkfiookbnaaDoorCalcAllA3
import Derived.Test.YtnnphkfiookbnaaDoorCalcAllT
import Derived.Test.YtnnphkfiookbnaaDoorCalcAllD
/- The plain law. -/
namespace Go.Proofs.YtnnphkfiookbnaaDoor
open Go.RowKit Go.Abs
/-! ### Letters, digits, numbers. -/
theorem fuel_len' (m : Nat) : (((m : Int) : Int) - (0)).toNat + 1 = m + 1 := by omega
theorem letter_eq (b : UInt8) : word_Letter (b.toNat : Int) = ref02_Letter (b.toNat : Int) := by
  have : ∀ k : Fin 256, word_Letter (k.val : Int) = ref02_Letter (k.val : Int) := by decide +kernel
  exact this ⟨b.toNat, b.toNat_lt⟩
def isD (b : UInt8) : Bool := decide (48 ≤ b.toNat ∧ b.toNat ≤ 57)
theorem digit_eq (b : UInt8) : word_Digit (b.toNat : Int) = some (isD b) ∧ ref02_Digit (b.toNat : Int) = some (isD b) := by
  have : ∀ k : Fin 256, word_Digit (k.val : Int) = some (decide (48 ≤ k.val ∧ k.val ≤ 57)) ∧ ref02_Digit (k.val : Int) = some (decide (48 ≤ k.val ∧ k.val ≤ 57)) := by decide +kernel
  exact this ⟨b.toNat, b.toNat_lt⟩
/-! ### The words of the language, and names. -/
def findS (s : List UInt8) : Int := match glob_0.findIdx? (fun y => y == s) with | some i => ((i : Nat) : Int) + 1 | none => 0
theorem findS_nn (s : List UInt8) : 0 ≤ findS s ∧ findS s ≤ 23 := by
  unfold findS
  split
  · rename_i i h
    have := (List.findIdx?_eq_some_iff_getElem.1 h).1
    have e : glob_0.length = 23 := rfl
    omega
  · omega
theorem word_Find_eq (s : List UInt8) : word_Find s = some (findS s) := by
  unfold word_Find word_is slices_IndexFunc_string
  rw [obs, findL (slices_IndexFunc_string_L1 glob_0 (fun z3 => word_is_1 z3 s)) (b := fun y => y == s) (by decide) (fun n x => by simp only [slices_IndexFunc_string_L1, word_is_1, obs]), obs, find_any, obs]
  have h := findS_nn s
  unfold findS at *
  cases hf : glob_0.findIdx? (fun y => y == s) with
  | none => rfl
  | some i => rw [hf] at h; simp only at h ⊢; rw [w64 (by omega) (by omega)]
theorem refFind_L {s : List UInt8} {l : List (List UInt8)} (hl : l.length ≤ 1000) : ∀ (n k : Nat), n + k = l.length + 1 → k ≤ l.length → ref02_Find_L1 s l n (k : Int) = some (match (l.drop k).findIdx? (fun y => y == s) with | some i => .stop (((k + i : Nat) : Int) + 1) | none => .next ())
  | 0, k, h, hk => by omega
  | n + 1, k, h, hk => by
    simp only [ref02_Find_L1]
    by_cases hlt : k < l.length
    · rw [if_pos (by simpa using hlt), idx_lt hlt, List.drop_eq_getElem_cons hlt, obs, List.findIdx?_cons, w64_succ hlt (by omega)]
      cases hb : l[k] == s with
      | true => simp
      | false =>
        rw [if_neg (by simp), refFind_L hl n (k + 1) (by omega) (by omega)]
        cases (l.drop (k + 1)).findIdx? (fun y => y == s) with
        | none => simp
        | some i => simp; omega
    · rw [if_neg (by simpa using hlt), List.drop_eq_nil_of_le (by omega)]
      rfl
theorem ref02_Find_eq (s : List UInt8) : ref02_Find s = some (findS s) := by
  unfold ref02_Find ref02_Words
  rw [obs]
  have h := refFind_L (s := s) (l := glob_0) (by decide) 24 0 (by decide) (by decide)
  have e : (show List (List UInt8) from glob_0).length = 23 := rfl
  show Option.bind (ref02_Find_L1 s glob_0 24 ((0 : Nat) : Int)) _ = _
  rw [h, obs, List.drop_zero]
  unfold findS
  cases glob_0.findIdx? (fun y => y == s) with
  | none => rfl
  | some i => simp [Ctl.elim]
/-! Names. -/
def isL (b : UInt8) : Bool := (word_Letter (b.toNat : Int)).getD false
theorem letter_some (a : Int) : word_Letter a = some ((word_Letter a).getD false) := by unfold word_Letter; split <;> rfl
theorem word_L (b : UInt8) : word_Letter (b.toNat : Int) = some (isL b) := letter_some _
theorem ref02_L (b : UInt8) : ref02_Letter (b.toNat : Int) = some (isL b) := by rw [← letter_eq]; exact word_L b
def isC (b : UInt8) : Bool := isL b || isD b
def nameS (s : List UInt8) : Bool := match s with
  | [] => false
  | b :: t => decide (t.length < 20) && (isL b && ((b :: t).all isC && findS (b :: t) == 0))
theorem idx_bytes {s : List UInt8} {k : Nat} (h : k < s.length) : idx (bytesL s) (k : Int) = some (s[k].toNat : Int) := by
  have hb : k < (bytesL s).length := by simp [bytesL]; exact h
  rw [idx_lt hb]; simp [bytesL]
theorem wName_L {s : List UInt8} (hs : s.length ≤ 1000) : ∀ (n k : Nat), n + k = s.length + 1 → k ≤ s.length → word_Name_L1 s n (k : Int) = some (if (s.drop k).all isC = true then .next () else .stop false)
  | 0, k, h, hk => by omega
  | n + 1, k, h, hk => by
    have hb : (bytesL s).length = s.length := by simp [bytesL]
    simp only [word_Name_L1, hb]
    by_cases hlt : k < s.length
    · rw [if_pos (by simpa using hlt), idx_bytes hlt, obs, word_L, obs, (digit_eq s[k]).1, List.drop_eq_getElem_cons hlt, w64_succ hlt (by omega), wName_L hs n (k + 1) (by omega) (by omega)]
      simp only [List.all_cons, isC]
      rcases Bool.eq_false_or_eq_true (isL s[k]) with h1 | h1 <;> rcases Bool.eq_false_or_eq_true (isD s[k]) with h2 | h2 <;> simp [obs, h1, h2]
    · rw [if_neg (by simpa using hlt), List.drop_eq_nil_of_le (by omega)]; rfl
theorem rName_L {s : List UInt8} (hs : s.length ≤ 1000) : ∀ (n k : Nat), n + k = s.length + 1 → k ≤ s.length → ref02_Name_L1 s n (k : Int) = some (if (s.drop k).all isC = true then .next () else .stop false)
  | 0, k, h, hk => by omega
  | n + 1, k, h, hk => by
    simp only [ref02_Name_L1]
    by_cases hlt : k < s.length
    · rw [if_pos (by simpa using hlt), idx_lt hlt, obs, ref02_L, obs, obs, (digit_eq s[k]).2, List.drop_eq_getElem_cons hlt, w64_succ hlt (by omega), rName_L hs n (k + 1) (by omega) (by omega)]
      simp only [List.all_cons, isC]
      rcases Bool.eq_false_or_eq_true (isL s[k]) with h1 | h1 <;> rcases Bool.eq_false_or_eq_true (isD s[k]) with h2 | h2 <;> simp [obs, h1, h2]
    · rw [if_neg (by simpa using hlt), List.drop_eq_nil_of_le (by omega)]; rfl
theorem word_Name_eq (s : List UInt8) : word_Name s = some (nameS s) := by
  unfold word_Name nameS
  match s with
  | [] => rfl
  | b :: t =>
    have hi : idx (b :: t) 0 = some b := rfl
    have hb : (bytesL (b :: t)).length = (b :: t).length := by simp [bytesL]
    by_cases h20 : t.length < 20
    · have e0 : ((b :: t) == ([] : List UInt8)) = false := rfl
      have e1 : decide (((b :: t).length : Int) > 20) = false := by simp; omega
      rw [e0, e1, hi, if_neg (by simp), if_neg (by simp), obs, word_L, obs, obs]
      cases hL : isL b with
      | false => simp [hL]
      | true =>
        rw [if_neg (by simp), room_ok (by simp; omega), obs, hb, fuel_len', show (0 : Int) = ((0 : Nat) : Int) from rfl, wName_L (by simp; omega) _ 0 (by omega) (by omega), obs, List.drop_zero]
        cases hA : (b :: t).all isC with
        | false => rw [if_neg (by simp)]; simp [Ctl.elim, hL, hA]
        | true => rw [if_pos rfl]; simp only [Ctl.elim, word_Find_eq, obs]; simp [h20, hL, hA]
    · have e0 : ((b :: t) == ([] : List UInt8)) = false := rfl
      have e1 : decide (((b :: t).length : Int) > 20) = true := by simp; omega
      rw [e0, e1]
      simp [h20]
theorem ref02_Name_eq (s : List UInt8) : ref02_Name s = some (nameS s) := by
  unfold ref02_Name nameS
  match s with
  | [] => rfl
  | b :: t =>
    have hi : idx (b :: t) 0 = some b := rfl
    have e0 : decide (((b :: t).length : Int) < 1) = false := by simp; omega
    by_cases h20 : t.length < 20
    · have e1 : decide (((b :: t).length : Int) > 20) = false := by simp; omega
      rw [e0, e1, hi, if_neg (by simp), if_neg (by simp), obs, ref02_L, obs, ref02_Find_eq, obs]
      have hn := findS_nn (b :: t)
      cases hL : isL b with
      | false => simp [hL]
      | true =>
        by_cases hf : findS (b :: t) = 0
        · rw [hf, if_neg (by simp), obs, if_neg (by simp), fuel_len', show (0 : Int) = ((0 : Nat) : Int) from rfl, rName_L (by simp; omega) _ 0 (by omega) (by omega), obs, List.drop_zero]
          cases hA : (b :: t).all isC with
          | false => rw [if_neg (by simp)]; simp [Ctl.elim, hL, hA]
          | true => rw [if_pos rfl]; simp [Ctl.elim, h20, hL, hA, hf]
        · rw [if_neg (by simp), obs, if_pos (by simp; omega)]
          simp [hf, hL]
    · have e1 : decide (((b :: t).length : Int) > 20) = true := by simp; omega
      rw [e0, e1]
      simp [h20]
/-! ### Expressions that may be. -/
theorem mG_eq (e : GExpr) : mGExpr e = 1 + mLGExpr e.fKids := by cases e; simp only [mGExpr]
theorem mL_mem : ∀ {l : List GExpr} {x : GExpr}, x ∈ l → mGExpr x ≤ mLGExpr l
  | y :: l, x, h => by
    simp only [mLGExpr]
    rcases List.mem_cons.1 h with rfl | h
    · omega
    · have := mL_mem h; omega
theorem mL_len : ∀ l : List GExpr, l.length ≤ mLGExpr l
  | [] => by simp
  | x :: l => by
    have := mL_len l
    have := mG_eq x
    simp only [mLGExpr, List.length_cons]; omega
theorem kid_lt {e x : GExpr} (h : x ∈ e.fKids) : mGExpr x < mGExpr e := by
  have := mL_mem h
  have := mG_eq e
  omega
theorem kids_len (e : GExpr) : e.fKids.length < mGExpr e := by
  have := mL_len e.fKids
  have := mG_eq e
  omega
theorem idx_mem {α : Type} {l : List α} {x : Int} {y : α} (h : idx l x = some y) : y ∈ l := by
  unfold idx at h
  split at h
  · exact List.mem_of_getElem? h
  · cases h
def kidsS (k : Int) : Int := if 1 ≤ k ∧ k ≤ 5 then 0 else if k = 12 ∨ k = 13 then 1 else if (6 ≤ k ∧ k ≤ 11) ∨ k = 14 then 2 else -1
theorem kinds {k : Int} (h : 1 ≤ k ∧ k ≤ 14) : k = 1 ∨ k = 2 ∨ k = 3 ∨ k = 4 ∨ k = 5 ∨ k = 6 ∨ k = 7 ∨ k = 8 ∨ k = 9 ∨ k = 10 ∨ k = 11 ∨ k = 12 ∨ k = 13 ∨ k = 14 := by omega
theorem expr_kids_eq (k : Int) : expr_kids k = some (kidsS k) := by
  by_cases h : 1 ≤ k ∧ k ≤ 14
  · rcases kinds h with rfl | rfl | rfl | rfl | rfl | rfl | rfl | rfl | rfl | rfl | rfl | rfl | rfl | rfl <;> rfl
  · have hn : ∀ j : Int, 1 ≤ j → j ≤ 14 → (k == j) = false := fun j h1 h2 => by simp; omega
    unfold expr_kids kidsS
    simp only [hn 1 (by omega) (by omega), hn 2 (by omega) (by omega), hn 3 (by omega) (by omega), hn 4 (by omega) (by omega), hn 5 (by omega) (by omega), hn 6 (by omega) (by omega), hn 7 (by omega) (by omega), hn 8 (by omega) (by omega), hn 9 (by omega) (by omega), hn 10 (by omega) (by omega), hn 11 (by omega) (by omega), hn 12 (by omega) (by omega), hn 13 (by omega) (by omega), hn 14 (by omega) (by omega), obs, Bool.false_eq_true, if_false]
    rw [if_neg (by omega), if_neg (by omega), if_neg (by omega)]
def kidOk (k : Int) (x : GExpr) : Bool := if k = 13 then decide (x.fKind = 2) || decide (x.fKind = 3) else if k = 14 then decide (x.fKind = 2) || (decide (x.fKind = 3) || decide (x.fKind = 4)) else true
/-- An expression may be, but for its kids' own make. -/
def headS (e : GExpr) : Bool := decide ((e.fKids.length : Int) = kidsS e.fKind) && ((decide (e.fKind = 1) || decide (e.fNum = 0)) && ((decide (e.fKind = 2) || e.fName == []) && ((!decide (e.fKind = 1) || (decide (e.fNum ≥ 0) && decide (e.fNum ≤ 999999999))) && (!decide (e.fKind = 2) || nameS e.fName))))
def plnS (e : GExpr) : Bool := headS e && e.fKids.all (kidOk e.fKind)
theorem contains_eq' {l : List GExpr} (hl : l.length ≤ 1000000) {q : GExpr → Option Bool} {b : GExpr → Bool} (hq : ∀ y, q y = some (b y)) : slices_ContainsFunc_api_Expr l q = some (l.any b) := by
  unfold slices_ContainsFunc_api_Expr slices_IndexFunc_api_Expr
  rw [findL (slices_IndexFunc_api_Expr_L1 l q) (b := b) (by omega) (fun n x => by rw [slices_IndexFunc_api_Expr_L1]; simp only [hq, obs]), obs, find_any, obs, idx_any]
theorem plain_1 (x c : GExpr) : expr_plain_1 x c = some (if x.fKind = 2 then false else if x.fKind = 3 then false else if x.fKind = 4 then decide (c.fKind = 13) else true) := by
  unfold expr_plain_1
  by_cases h2 : x.fKind = 2
  · simp [h2]
  · by_cases h3 : x.fKind = 3
    · simp [h3]
    · by_cases h4 : x.fKind = 4
      · by_cases h5 : c.fKind = 13 <;> simp [h4, h5]
      · simp [h2, h3, h4]
theorem expr_plain_eq {e : GExpr} (hl : e.fKids.length ≤ 1000000) : expr_plain e = some (plnS e) := by
  unfold expr_plain plnS headS
  rw [expr_kids_eq, obs]
  by_cases h0 : (e.fKids.length : Int) = kidsS e.fKind
  · by_cases h1 : e.fKind = 1
    · have k1 : e.fKids.all (kidOk e.fKind) = true := by simp [kidOk, h1]
      rw [k1]
      by_cases hn : (e.fName == []) = true
      · by_cases g : e.fNum ≥ 0 <;> by_cases g' : e.fNum ≤ 999999999 <;> simp_all [obs] <;> (split <;> simp_all <;> omega)
      · simp_all [obs]
    · by_cases h2 : e.fKind = 2
      · have k1 : e.fKids.all (kidOk e.fKind) = true := by simp [kidOk, h2]
        rw [k1, word_Name_eq]
        by_cases hm : e.fNum = 0 <;> simp_all [obs]
      · by_cases hm : e.fNum = 0
        · by_cases hn : (e.fName == []) = true
          · have hn' : e.fName = [] := by simpa using hn
            by_cases h13 : e.fKind = 13
            · rw [contains_eq' hl (fun y => plain_1 y e)]
              simp only [h0, h13, hm, hn', obs]
              simp
              rw [Bool.eq_iff_iff]
              simp [kidOk]
            · by_cases h14 : e.fKind = 14
              · rw [contains_eq' hl (fun y => plain_1 y e)]
                simp only [h0, h14, hm, hn', obs]
                simp
                rw [Bool.eq_iff_iff]
                simp [kidOk]
              · have k1 : e.fKids.all (kidOk e.fKind) = true := by simp [kidOk, h13, h14]
                rw [k1]
                simp [h0, h1, h2, hm, hn', h13, h14, obs]
          · simp_all [obs]
        · simp_all [obs]
  · simp [h0, obs]
/-- Every part may be. -/
def fS (e : GExpr) : Bool := (preE e).all plnS
theorem preEL_all : ∀ l : List GExpr, (preEL l).all plnS = l.all fS
  | [] => rfl
  | x :: l => by simp only [preEL, List.all_append, List.all_cons, preEL_all l, fS]
theorem fS_eq (e : GExpr) : fS e = (plnS e && e.fKids.all fS) := by
  obtain ⟨k, n, nm, l⟩ := e
  show (preE ⟨k, n, nm, l⟩).all plnS = _
  rw [preE, List.all_cons, preEL_all]
mutual
def dE : GExpr → Nat
  | ⟨_, _, _, l⟩ => 1 + dEL l
def dEL : List GExpr → Nat
  | [] => 0
  | x :: l => max (dE x) (dEL l)
end
theorem dE_eq (e : GExpr) : dE e = 1 + dEL e.fKids := by cases e; simp only [dE]
theorem dEL_le : ∀ (l : List GExpr) (m : Nat), dEL l ≤ m ↔ ∀ x ∈ l, dE x ≤ m
  | [], m => by simp [dEL]
  | x :: l, m => by
    have := dEL_le l m
    simp only [dEL, List.mem_cons, forall_eq_or_imp, ← this]
    omega
theorem dE_mG : ∀ (m : Nat) (e : GExpr), mGExpr e ≤ m → dE e ≤ mGExpr e
  | 0, e, h => by have := mG_eq e; omega
  | m + 1, e, h => by
    have h1 := mG_eq e
    rw [dE_eq, h1]
    have : dEL e.fKids ≤ mLGExpr e.fKids := (dEL_le _ _).2 fun x hx => by
      have h2 := mL_mem hx
      have := dE_mG m x (by omega)
      omega
    omega
theorem contains_eqm {l : List GExpr} (hl : l.length ≤ 1000000) {q : GExpr → Option Bool} {b : GExpr → Bool} (hq : ∀ y ∈ l, q y = some (b y)) : slices_ContainsFunc_api_Expr l q = some (l.any b) := by
  unfold slices_ContainsFunc_api_Expr slices_IndexFunc_api_Expr
  rw [findL (slices_IndexFunc_api_Expr_L1 l q) (b := b) (by omega) (fun n x => by
    rw [slices_IndexFunc_api_Expr_L1]
    cases h : idx l x with
    | none => rfl
    | some y => simp only [hq y (idx_mem h), obs]), obs, find_any, obs, idx_any]
theorem expr_deep_eq : ∀ (m n : Nat) (e : GExpr), 2 * m + 2 ≤ n → m ≤ 1000 → mGExpr e ≤ 1000000 → expr_deep n e (m : Int) = some (decide (dE e ≤ m))
  | 0, n + 1, e, _, _, _ => by
    have := dE_eq e
    rw [expr_deep, if_pos (by simp)]
    simp; omega
  | m + 1, n + 2, e, hn, hm, he => by
    have hk := kids_len e
    rw [expr_deep, if_neg (by simp; omega), contains_eqm (b := fun y => !decide (dE y ≤ m)) (by omega) (fun y hy => by
      have := kid_lt hy
      rw [expr_deep_1, show w_i64 (((m + 1 : Nat) : Int) - 1) = (m : Int) by rw [w64 (by omega) (by omega)]; omega, expr_deep_eq m n y (by omega) (by omega) (by omega), obs]), obs]
    congr 1
    rw [Bool.eq_iff_iff]
    have h1 := dEL_le e.fKids m
    have h2 := dE_eq e
    simp
    rw [h2]
    constructor
    · intro h
      have := h1.2 h
      omega
    · intro h
      exact h1.1 (by omega)
theorem ref06_kids_eq {k : Int} (h : 1 ≤ k ∧ k ≤ 14) : ref06_kids k = some (kidsS k) := by
  rcases kinds h with rfl | rfl | rfl | rfl | rfl | rfl | rfl | rfl | rfl | rfl | rfl | rfl | rfl | rfl <;> rfl
theorem runs_right : ∀ l : List GExpr, (∀ x ∈ l, x.fKids.length ≤ 1000000) → runs expr_Right_B1 l () = some (if l.all plnS = true then .next () else .stop ())
  | [], _ => rfl
  | x :: l, h => by
    by_cases hp : plnS x = true
    · have hx : (x :: l).all plnS = l.all plnS := by rw [List.all_cons, hp, Bool.true_and]
      simp only [runs, expr_Right_B1, expr_plain_eq (h x (by simp)), obs, hx, hp, Bool.not_true, Bool.false_eq_true, if_false, Ctl.elim]
      exact runs_right l (fun y hy => h y (by simp [hy]))
    · have hx : (x :: l).all plnS = false := by rw [List.all_cons, Bool.eq_false_iff.2 hp, Bool.false_and]
      simp only [runs, expr_Right_B1, expr_plain_eq (h x (by simp)), obs, hx, Bool.eq_false_iff.2 hp, Bool.not_false, if_true, Ctl.elim, Bool.false_eq_true, if_false]
mutual
theorem pre_len : ∀ e : GExpr, ∀ x ∈ preE e, x.fKids.length < mGExpr e
  | ⟨k, n, nm, l⟩, x, hx => by
    simp only [preE, List.mem_cons] at hx
    have h1 := mL_len l
    rcases hx with rfl | hx
    · simp only [mGExpr]; omega
    · have := preL_len l x hx
      simp only [mGExpr]; omega
theorem preL_len : ∀ l : List GExpr, ∀ x ∈ preEL l, x.fKids.length < mLGExpr l
  | [], x, hx => by simp [preEL] at hx
  | y :: l, x, hx => by
    simp only [preEL, List.mem_append] at hx
    simp only [mLGExpr]
    rcases hx with hx | hx
    · have := pre_len y x hx; omega
    · have := preL_len l x hx; omega
end
def rightS (e : GExpr) : Bool := decide (dE e ≤ 20) && fS e
theorem expr_Right_eq {e : GExpr} (he : mGExpr e ≤ 1000000) : expr_Right e = some (rightS e) := by
  unfold expr_Right rightS expr_all
  rw [show (20 : Int) = ((20 : Nat) : Int) from rfl, expr_deep_eq 20 _ e (by decide) (by omega) he, obs]
  by_cases hd : dE e ≤ 20
  · rw [decide_eq_true hd, if_neg (by simp), obs]
    unfold itR_all
    rw [if_pos he, obs, runs_right _ (fun x hx => by have := pre_len e x hx; omega), obs]
    unfold fS
    by_cases ha : (preE e).all plnS = true
    · rw [if_pos ha, ha]; rfl
    · rw [if_neg ha, Bool.eq_false_iff.2 ha]; rfl
  · rw [decide_eq_false hd, if_pos (by simp)]; simp

theorem form_L {e : GExpr} (he : e.fKids.length ≤ 1000000) {rec : GExpr → Option Bool} (hr : ∀ y ∈ e.fKids, rec y = some (fS y)) :
    ref06_form_L1 e rec ((((e.fKids.length : Int) : Int) - (0)).toNat + 1) 0 = some (if e.fKids.any (fun y => !(fS y && kidOk e.fKind y)) = true then .stop false else .next ()) := by
  refine anyL (ref06_form_L1 e rec) (by omega) fun n x => ?_
  rw [ref06_form_L1]
  cases h : idx e.fKids x with
  | none => rfl
  | some y =>
    simp only [obs, hr y (idx_mem h)]
    congr 1
    cases hf : fS y with
    | false => simp [obs]
    | true =>
      by_cases h13 : e.fKind = 13
      · by_cases a : y.fKind = 2
        · simp [h13, a, kidOk, obs]
        · by_cases b : y.fKind = 3
          · simp [h13, b, kidOk, obs]
          · simp [h13, a, b, kidOk, obs]
      · by_cases h14 : e.fKind = 14
        · by_cases a : y.fKind = 2
          · simp [h14, a, kidOk, obs]
          · by_cases b : y.fKind = 3
            · simp [h14, b, kidOk, obs]
            · by_cases c : y.fKind = 4
              · simp [h14, c, kidOk, obs]
              · simp [h14, a, b, c, kidOk, obs]
        · simp [h13, h14, kidOk, obs]
theorem any_form (k : Int) : ∀ l : List GExpr, l.any (fun y => !(fS y && kidOk k y)) = !(l.all (kidOk k) && l.all fS)
  | [] => rfl
  | x :: l => by
    rw [List.any_cons, List.all_cons, List.all_cons, any_form k l]
    cases fS x <;> cases kidOk k x <;> cases l.all (kidOk k) <;> cases l.all fS <;> rfl
theorem ref06_form_eq : ∀ (n : Nat) (e : GExpr), mGExpr e ≤ 1000000 → mGExpr e < n → ref06_form n e = some (fS e)
  | n + 1, e, he, hn => by
    have hk := kids_len e
    have hfl := form_L (e := e) (by omega) (rec := ref06_form n) (fun y hy => ref06_form_eq n y (by have := kid_lt hy; omega) (by have := kid_lt hy; omega))
    rw [ref06_form, hfl, fS_eq, plnS]
    rw [any_form]
    generalize e.fKids.all (kidOk e.fKind) = A
    generalize e.fKids.all fS = B
    unfold headS
    by_cases hr : 1 ≤ e.fKind ∧ e.fKind ≤ 14
    · rw [if_neg (by simp; omega), if_neg (by simp; omega), ref06_kids_eq hr, obs]
      by_cases h0 : (e.fKids.length : Int) = kidsS e.fKind
      · by_cases h1 : e.fKind = 1
        · by_cases hn : e.fName = []
          · by_cases g : e.fNum < 0
            · cases A <;> cases B <;> simp [h0, h1, hn, g, obs] <;> omega
            · by_cases g' : e.fNum > 999999999
              · cases A <;> cases B <;> simp [h0, h1, hn, g, g', obs] <;> omega
              · cases A <;> cases B <;> simp [h0, h1, hn, g, g', obs, Ctl.elim] <;> omega
          · cases A <;> cases B <;> simp [h0, h1, hn, obs]
        · by_cases h2 : e.fKind = 2
          · by_cases hm : e.fNum = 0
            · cases hN : nameS e.fName <;> cases A <;> cases B <;> simp [h0, h2, hm, hN, ref02_Name_eq, obs, Ctl.elim]
            · cases A <;> cases B <;> simp [h0, h2, hm, obs]
          · by_cases hm : e.fNum = 0
            · by_cases hn : e.fName = []
              · cases A <;> cases B <;> simp [h0, h1, h2, hm, hn, obs, Ctl.elim]
              · cases A <;> cases B <;> simp [h0, h1, h2, hm, hn, obs]
            · cases A <;> cases B <;> simp [h0, h1, h2, hm, obs]
      · simp [h0, obs]
    · have hk1 : (e.fKids.length : Int) ≠ kidsS e.fKind := by unfold kidsS; rw [if_neg (by omega), if_neg (by omega), if_neg (by omega)]; omega
      by_cases h1 : e.fKind < 1
      · simp [h1, hk1, obs]
      · simp [h1, show e.fKind > 14 by omega, hk1, obs]
theorem deep_L {e : GExpr} (he : e.fKids.length ≤ 1000000) {rec : GExpr → Option Int} (hr : ∀ y ∈ e.fKids, rec y = some (dE y : Int)) :
    ∀ (n k : Nat) (m : Nat), n + k = e.fKids.length + 1 → k ≤ e.fKids.length → ref06_Deep_L1 e rec n (m : Int) (k : Int) = some ((max m (dEL (e.fKids.drop k)) : Nat) : Int)
  | 0, k, m, h, hk => by omega
  | n + 1, k, m, h, hk => by
    rw [ref06_Deep_L1]
    by_cases hlt : k < e.fKids.length
    · rw [if_pos (by simpa using hlt), idx_lt hlt, obs, hr _ (List.getElem_mem hlt), obs, w64_succ hlt (by omega), List.drop_eq_getElem_cons hlt, dEL,
        show (if (dE e.fKids[k] : Int) > (m : Int) then (dE e.fKids[k] : Int) else (m : Int)) = ((max m (dE e.fKids[k]) : Nat) : Int) by split <;> omega, deep_L he hr n (k + 1) _ (by omega) (by omega)]
      congr 2; omega
    · rw [if_neg (by simpa using hlt), List.drop_eq_nil_of_le (by omega), dEL]
      congr 2; omega
theorem ref06_Deep_eq : ∀ (n : Nat) (e : GExpr), mGExpr e ≤ 1000000 → mGExpr e < n → ref06_Deep n e = some (dE e : Int)
  | n + 1, e, he, hn => by
    have hk := kids_len e
    have hd := dE_mG _ e (Nat.le_refl _)
    have h1 := dE_eq e
    have hl : ref06_Deep_L1 e (ref06_Deep n) ((((e.fKids.length : Int) : Int) - (0)).toNat + 1) 0 0 = some ((max 0 (dEL (e.fKids.drop 0)) : Nat) : Int) := deep_L (e := e) (by omega) (rec := ref06_Deep n) (fun y hy => ref06_Deep_eq n y (by have := kid_lt hy; omega) (by have := kid_lt hy; omega)) ((((e.fKids.length : Int) : Int) - (0)).toNat + 1) 0 0 (by omega) (by omega)
    rw [ref06_Deep, hl, obs, List.drop_zero, w64 (by omega) (by omega)]
    congr 1; omega
theorem ref06_Right_eq {e : GExpr} (he : mGExpr e ≤ 1000000) : ref06_Right e = some (rightS e) := by
  unfold ref06_Right rightS
  rw [ref06_form_eq _ e he (by omega), obs]
  cases fS e with
  | false => simp
  | true => rw [if_pos rfl, ref06_Deep_eq _ e he (by omega), obs, Bool.and_true]; simp; omega
theorem size_L {e : GExpr} (he : e.fKids.length ≤ 1000000) {rec : GExpr → Option Int} (hr : ∀ y ∈ e.fKids, ∃ s : Nat, rec y = some (s : Int) ∧ 1 ≤ s ∧ s ≤ mGExpr y ∧ (s < 1000 → s = mGExpr y)) :
    ∀ (n k a : Nat), n + k = e.fKids.length + 1 → k ≤ e.fKids.length → a + mLGExpr (e.fKids.drop k) ≤ 2000000 → ∃ s : Nat, ref06_Size_L1 e rec n (a : Int) (k : Int) = some (s : Int) ∧ a ≤ s ∧ s ≤ a + mLGExpr (e.fKids.drop k) ∧ (s < 1000 → s = a + mLGExpr (e.fKids.drop k))
  | 0, k, a, h, hk, _ => by omega
  | n + 1, k, a, h, hk, hb => by
    rw [ref06_Size_L1]
    by_cases hlt : k < e.fKids.length
    · rw [if_pos (by simpa using hlt), obs]
      rw [List.drop_eq_getElem_cons hlt, mLGExpr] at hb ⊢
      by_cases ha : a < 1000
      · obtain ⟨s, h1, h2, h3, h4⟩ := hr _ (List.getElem_mem hlt)
        obtain ⟨t, k1, k2, k3, k4⟩ := size_L he hr n (k + 1) (a + s) (by omega) (by omega) (by omega)
        rw [if_pos (by simp; omega), idx_lt hlt, obs, h1, obs, w64_succ hlt (by omega), w64 (by omega) (by omega), show (a : Int) + (s : Int) = ((a + s : Nat) : Int) by omega, k1]
        exact ⟨t, rfl, by omega, by omega, by omega⟩
      · rw [if_neg (by simp; omega)]
        exact ⟨a, rfl, by omega, by omega, by omega⟩
    · rw [if_neg (by simpa using hlt), obs, if_neg (by simp), List.drop_eq_nil_of_le (by omega), mLGExpr]
      exact ⟨a, rfl, by omega, by omega, by omega⟩
theorem ref06_Size_eq : ∀ (n : Nat) (e : GExpr), mGExpr e ≤ 1000000 → mGExpr e < n → ∃ s : Nat, ref06_Size n e = some (s : Int) ∧ 1 ≤ s ∧ s ≤ mGExpr e ∧ (s < 1000 → s = mGExpr e)
  | n + 1, e, he, hn => by
    have hk := kids_len e
    have h1 := mG_eq e
    obtain ⟨s, k1, k2, k3, k4⟩ := size_L (e := e) (by omega) (rec := ref06_Size n) (fun y hy => ref06_Size_eq n y (by have := kid_lt hy; omega) (by have := kid_lt hy; omega)) (e.fKids.length + 1) 0 1 (by omega) (by omega) (by rw [List.drop_zero]; omega)
    rw [List.drop_zero] at k3 k4
    exact ⟨s, by rw [ref06_Size, show (1 : Int) = ((1 : Nat) : Int) from rfl, show (0 : Int) = ((0 : Nat) : Int) from rfl, k1, obs], by omega, by omega, by omega⟩

/-! ### The first class of a name. -/
def fiN : List GClass → Nat → List UInt8 → Option Nat
  | [], _, _ => none
  | c :: t, k, name => if c.fName == name then some k else fiN t (k + 1) name
def fi (p : List GClass) (name : List UInt8) : Option Nat := fiN p 0 name
def fnd (p : List GClass) (name : List UInt8) : Int := match fi p name with | some i => (i : Int) | none => -1
theorem fiN_spec : ∀ (l : List GClass) (k : Nat) (name : List UInt8) (i : Nat), fiN l k name = some i → k ≤ i ∧ ∃ c, l[i - k]? = some c ∧ c.fName = name
  | [], k, name, i, h => by simp [fiN] at h
  | c :: t, k, name, i, h => by
    simp only [fiN] at h
    split at h
    · rename_i hc
      cases h
      exact ⟨Nat.le_refl _, c, by simp, by simpa using hc⟩
    · obtain ⟨h1, c', h2, h3⟩ := fiN_spec t (k + 1) name i h
      refine ⟨by omega, c', ?_, h3⟩
      rw [show i - k = (i - (k + 1)) + 1 by omega, List.getElem?_cons_succ]
      exact h2
theorem fi_spec {p : List GClass} {name : List UInt8} {i : Nat} (h : fi p name = some i) : ∃ c, p[i]? = some c ∧ c.fName = name := by
  obtain ⟨_, c, h1, h2⟩ := fiN_spec p 0 name i h
  exact ⟨c, by simpa using h1, h2⟩
theorem fnd_some {p : List GClass} {name : List UInt8} {i : Nat} (h : fi p name = some i) : fnd p name = (i : Int) := by unfold fnd; rw [h]
theorem fnd_none {p : List GClass} {name : List UInt8} (h : fi p name = none) : fnd p name = -1 := by unfold fnd; rw [h]
/-- What a loop over a list that stops at the first hit comes to. -/
def hit (o : Option Nat) : Ctl Int Unit := match o with | some i => .stop (i : Int) | none => .next ()

theorem indexFunc_L {p : List GClass} (name : List UInt8) (hp : p.length < 9223372036854775806) : ∀ (n k : Nat), n + k = p.length + 1 → k ≤ p.length →
    slices_IndexFunc_api_Class_L1 p (fun (z1 : GClass) => table_Find_1 z1 name) n (k : Int) = some (hit (fiN (p.drop k) k name))
  | 0, k, h, hk => by omega
  | n + 1, k, h, hk => by
    simp only [slices_IndexFunc_api_Class_L1]
    by_cases hlt : k < p.length
    · rw [if_pos (by simpa using hlt), idx_lt hlt, List.drop_eq_getElem_cons hlt]
      simp only [obs, table_Find_1, fiN]
      by_cases hc : (p[k].fName == name) = true
      · rw [if_pos hc, if_pos hc]; rfl
      · rw [if_neg hc, if_neg hc, w64_succ hlt (by omega)]
        exact indexFunc_L name hp n (k + 1) (by omega) (by omega)
    · rw [if_neg (by simpa using hlt), List.drop_eq_nil_of_le (by omega)]
      rfl
theorem table_Find_eq {p : List GClass} (hp : p.length < 9223372036854775806) (name : List UInt8) : table_Find p name = some (fnd p name) := by
  unfold table_Find slices_IndexFunc_api_Class
  have h := indexFunc_L name hp (p.length + 1) 0 (by omega) (by omega)
  rw [show (((p.length : Int) : Int) - (0)).toNat + 1 = p.length + 1 by omega, show (0 : Int) = ((0 : Nat) : Int) from rfl, h]
  simp only [List.drop_zero, obs]
  unfold fnd fi hit
  cases fiN p 0 name <;> rfl

theorem ref13_Find_L {p : List GClass} (name : List UInt8) (hp : p.length < 9223372036854775806) : ∀ (n k : Nat), n + k = p.length + 1 → k ≤ p.length →
    ref13_Find_L1 p name n (k : Int) = some (hit (fiN (p.drop k) k name))
  | 0, k, h, hk => by omega
  | n + 1, k, h, hk => by
    simp only [ref13_Find_L1]
    by_cases hlt : k < p.length
    · rw [if_pos (by simpa using hlt), idx_lt hlt, List.drop_eq_getElem_cons hlt]
      simp only [obs, fiN]
      by_cases hc : (p[k].fName == name) = true
      · rw [if_pos hc, if_pos hc]; rfl
      · rw [if_neg hc, if_neg hc, w64_succ hlt (by omega)]
        exact ref13_Find_L name hp n (k + 1) (by omega) (by omega)
    · rw [if_neg (by simpa using hlt), List.drop_eq_nil_of_le (by omega)]
      rfl
theorem ref13_Find_eq {p : List GClass} (hp : p.length < 9223372036854775806) (name : List UInt8) : ref13_Find p name = some (fnd p name) := by
  unfold ref13_Find
  have h := ref13_Find_L name hp (p.length + 1) 0 (by omega) (by omega)
  rw [show (((p.length : Int) : Int) - (0)).toNat + 1 = p.length + 1 by omega, show (0 : Int) = ((0 : Nat) : Int) from rfl, h]
  simp only [List.drop_zero, obs]
  unfold fnd fi hit
  cases fiN p 0 name <;> rfl

/-! ### What never fails. -/
def Tot {α : Type} (o : Option α) : Prop := ∃ r, o = some r
theorem tot_some {α : Type} (x : α) : Tot (some x) := ⟨x, rfl⟩
theorem tot_bind {α β : Type} {a : Option α} {f : α → Option β} (h : Tot a) (h2 : ∀ x, a = some x → Tot (f x)) : Tot (Option.bind a f) := by
  obtain ⟨x, rfl⟩ := h
  exact h2 x rfl
theorem tot_ite {α : Type} {b : Bool} {x y : Option α} (h1 : b = true → Tot x) (h2 : b = false → Tot y) : Tot (if b = true then x else y) := by
  cases b with
  | true => exact h1 rfl
  | false => exact h2 rfl
theorem tot_elim {R S α : Type} {r : Ctl R S} {f : R → Option α} {g : S → Option α} (h1 : ∀ v, Tot (f v)) (h2 : ∀ s, Tot (g s)) : Tot (Ctl.elim r f g) := by
  cases r with
  | stop v => exact h1 v
  | next s => exact h2 s
theorem tot_loop1 {ρ : Type} (F : Nat → Int → Option ρ) (len : Nat) (h1 : ∀ (n k : Nat), k < len → Tot (F n ((k + 1 : Nat) : Int)) → Tot (F (n + 1) (k : Int))) (h2 : ∀ (n k : Nat), ¬ k < len → Tot (F (n + 1) (k : Int))) :
    ∀ (n k : Nat), n + k = len + 1 → k ≤ len → Tot (F n (k : Int))
  | 0, k, h, hk => by omega
  | n + 1, k, h, hk => by
    by_cases hlt : k < len
    · exact h1 n k hlt (tot_loop1 F len h1 h2 n (k + 1) (by omega) (by omega))
    · exact h2 n k hlt
theorem tot_loop2 {σ ρ : Type} (F : Nat → σ → Int → Option ρ) (len : Nat) (h1 : ∀ (n k : Nat) (s : σ), k < len → (∀ s', Tot (F n s' ((k + 1 : Nat) : Int))) → Tot (F (n + 1) s (k : Int))) (h2 : ∀ (n k : Nat) (s : σ), ¬ k < len → Tot (F (n + 1) s (k : Int))) :
    ∀ (n k : Nat) (s : σ), n + k = len + 1 → k ≤ len → Tot (F n s (k : Int))
  | 0, k, s, h, hk => by omega
  | n + 1, k, s, h, hk => by
    by_cases hlt : k < len
    · exact h1 n k s hlt (fun s' => tot_loop2 F len h1 h2 n (k + 1) s' (by omega) (by omega))
    · exact h2 n k s hlt
theorem fuel_len (m : Nat) : (((m : Int) : Int) - (0)).toNat + 1 = m + 1 := by omega

theorem mE_mem {l : List GExpr} {e : GExpr} : e ∈ l → mGExpr e ≤ mLGExpr l := by
  induction l with
  | nil => intro h; simp at h
  | cons x l ih =>
    intro h
    simp only [mLGExpr]
    rcases List.mem_cons.1 h with rfl | h
    · omega
    · have := ih h; omega
theorem mS_mem {l : List GStmt} {e : GStmt} : e ∈ l → mGStmt e ≤ mLGStmt l := by
  induction l with
  | nil => intro h; simp at h
  | cons x l ih =>
    intro h
    simp only [mLGStmt]
    rcases List.mem_cons.1 h with rfl | h
    · omega
    · have := ih h; omega
theorem mE_eq (e : GExpr) : mGExpr e = 1 + mLGExpr e.fKids := by cases e; simp only [mGExpr]
theorem mS_eq (e : GStmt) : mGStmt e = 1 + mGExpr e.fE + mLGExpr e.fArgs + mLGStmt e.fBody + mLGStmt e.fElse := by cases e; simp only [mGStmt]
theorem goodE {e : GExpr} (h : goodGExpr e) : e.fKids.length ≤ maxLen ∧ ∀ y ∈ e.fKids, goodGExpr y := by cases h; exact ⟨by assumption, by assumption⟩
theorem goodS {e : GStmt} (h : goodGStmt e) : goodGExpr e.fE ∧ listok (fun y => goodGExpr y) e.fArgs ∧ (e.fBody.length ≤ maxLen ∧ ∀ y ∈ e.fBody, goodGStmt y) ∧ (e.fElse.length ≤ maxLen ∧ ∀ y ∈ e.fElse, goodGStmt y) := by
  cases h
  exact ⟨by assumption, by assumption, ⟨by assumption, by assumption⟩, ⟨by assumption, by assumption⟩⟩
theorem tot_kids : ∀ (n : Nat) (e : GExpr) (d : Int), goodGExpr e → mGExpr e < n → Tot (ref10_kids n e d)
  | 0, e, d, _, h => by omega
  | n + 1, e, d, hg, hm => by
    obtain ⟨hl, hk⟩ := goodE hg
    simp only [maxLen] at hl
    simp only [ref10_kids, fuel_len]
    refine tot_bind (tot_ite (fun _ => tot_some _) (fun _ => tot_some _)) fun x _ => tot_ite (fun _ => tot_some _) fun _ => ?_
    refine tot_bind ?_ fun lr _ => tot_elim (fun v => tot_some _) (fun _ => tot_some _)
    refine tot_loop1 (ref10_kids_L1 e d (ref10_kids n)) e.fKids.length (fun m k hlt ih => ?_) (fun m k hlt => ?_) _ 0 (by omega) (by omega)
    · simp only [ref10_kids_L1]
      rw [if_pos (by simpa using hlt), idx_lt hlt, w64_succ hlt (by omega)]
      simp only [obs]
      have hmem := List.getElem_mem hlt
      have h1 := mE_mem hmem
      rw [mE_eq] at hm
      refine tot_bind (tot_kids n _ _ (hk _ hmem) (by omega)) fun y _ => tot_ite (fun _ => tot_some _) fun _ => ih
    · simp only [ref10_kids_L1]
      rw [if_neg (by simpa using hlt)]
      exact tot_some _
theorem tot_much : ∀ (n : Nat) (e : GStmt) (d : Int), goodGStmt e → mGStmt e < n → Tot (ref10_much n e d)
  | 0, e, d, _, h => by omega
  | n + 1, e, d, hg, hm => by
    obtain ⟨hE, ⟨hal, ha⟩, ⟨hbl, hb⟩, ⟨hll, hl⟩⟩ := goodS hg
    simp only [maxLen] at hal hbl hll
    rw [mS_eq] at hm
    simp only [ref10_much, fuel_len]
    refine tot_bind ?_ fun x _ => tot_ite (fun _ => tot_some _) fun _ => ?_
    · exact tot_ite (fun _ => tot_some _) fun _ => tot_ite (fun _ => tot_some _) fun _ => tot_ite (fun _ => tot_some _) fun _ => tot_ite (fun _ => tot_some _) fun _ => tot_bind (tot_kids _ _ _ hE (by omega)) fun _ _ => tot_some _
    refine tot_bind ?_ fun lr _ => tot_elim (fun v => tot_some _) fun _ => tot_bind ?_ fun lr _ => tot_elim (fun v => tot_some _) fun _ => tot_bind ?_ fun lr _ => tot_elim (fun v => tot_some _) fun _ => tot_some _
    · refine tot_loop1 (ref10_much_L1 e) e.fArgs.length (fun m k hlt ih => ?_) (fun m k hlt => ?_) _ 0 (by omega) (by omega)
      · simp only [ref10_much_L1]
        rw [if_pos (by simpa using hlt), idx_lt hlt, w64_succ hlt (by omega)]
        simp only [obs]
        exact tot_bind (tot_kids _ _ _ (ha _ (List.getElem_mem hlt)) (by omega)) fun y _ => tot_ite (fun _ => tot_some _) fun _ => ih
      · simp only [ref10_much_L1]
        rw [if_neg (by simpa using hlt)]
        exact tot_some _
    · refine tot_loop1 (ref10_much_L2 e d (ref10_much n)) e.fBody.length (fun m k hlt ih => ?_) (fun m k hlt => ?_) _ 0 (by omega) (by omega)
      · simp only [ref10_much_L2]
        rw [if_pos (by simpa using hlt), idx_lt hlt, w64_succ hlt (by omega)]
        simp only [obs]
        have h1 := mS_mem (List.getElem_mem hlt)
        exact tot_bind (tot_much n _ _ (hb _ (List.getElem_mem hlt)) (by omega)) fun y _ => tot_ite (fun _ => tot_some _) fun _ => ih
      · simp only [ref10_much_L2]
        rw [if_neg (by simpa using hlt)]
        exact tot_some _
    · refine tot_loop1 (ref10_much_L3 e d (ref10_much n)) e.fElse.length (fun m k hlt ih => ?_) (fun m k hlt => ?_) _ 0 (by omega) (by omega)
      · simp only [ref10_much_L3]
        rw [if_pos (by simpa using hlt), idx_lt hlt, w64_succ hlt (by omega)]
        simp only [obs]
        have h1 := mS_mem (List.getElem_mem hlt)
        exact tot_bind (tot_much n _ _ (hl _ (List.getElem_mem hlt)) (by omega)) fun y _ => tot_ite (fun _ => tot_some _) fun _ => ih
      · simp only [ref10_much_L3]
        rw [if_neg (by simpa using hlt)]
        exact tot_some _
theorem tot_size : ∀ (n : Nat) (e : GStmt), goodGStmt e → mGStmt e < n → Tot (ref08_Size n e)
  | 0, e, _, h => by omega
  | n + 1, e, hg, hm => by
    obtain ⟨hE, ⟨hal, ha⟩, ⟨hbl, hb⟩, ⟨hll, hl⟩⟩ := goodS hg
    simp only [maxLen] at hbl hll
    rw [mS_eq] at hm
    simp only [ref08_Size, fuel_len]
    refine tot_bind ?_ fun x _ => tot_bind ?_ fun _ _ => tot_some _
    · refine tot_loop2 (ref08_Size_L1 e (ref08_Size n)) e.fBody.length (fun m k s hlt ih => ?_) (fun m k s hlt => ?_) _ 0 _ (by omega) (by omega)
      · simp only [ref08_Size_L1]
        rw [if_pos (by simpa using hlt), idx_lt hlt, w64_succ hlt (by omega)]
        simp only [obs]
        have h1 := mS_mem (List.getElem_mem hlt)
        exact tot_bind (tot_size n _ (hb _ (List.getElem_mem hlt)) (by omega)) fun y _ => ih _
      · simp only [ref08_Size_L1]
        rw [if_neg (by simpa using hlt)]
        exact tot_some _
    · refine tot_loop2 (ref08_Size_L2 e (ref08_Size n)) e.fElse.length (fun m k s hlt ih => ?_) (fun m k s hlt => ?_) _ 0 _ (by omega) (by omega)
      · simp only [ref08_Size_L2]
        rw [if_pos (by simpa using hlt), idx_lt hlt, w64_succ hlt (by omega)]
        simp only [obs]
        have h1 := mS_mem (List.getElem_mem hlt)
        exact tot_bind (tot_size n _ (hl _ (List.getElem_mem hlt)) (by omega)) fun y _ => ih _
      · simp only [ref08_Size_L2]
        rw [if_neg (by simpa using hlt)]
        exact tot_some _
theorem tot_uniques {m : GMethod} (h : goodGMethod m) : Tot (ref10_uniques m) := by
  have hp : m.fParams.length ≤ maxLen := h.2.2.2.1.1
  have hl : m.fLocals.length ≤ maxLen := h.2.2.2.2.1.1
  simp only [maxLen] at hp hl
  simp only [ref10_uniques, fuel_len]
  refine tot_bind ?_ fun x _ => tot_bind ?_ fun _ _ => tot_some _
  · refine tot_loop2 (ref10_uniques_L1 m) m.fParams.length (fun n k s hlt ih => ?_) (fun n k s hlt => ?_) _ 0 _ (by omega) (by omega)
    · simp only [ref10_uniques_L1]
      rw [if_pos (by simpa using hlt), idx_lt hlt, w64_succ hlt (by omega)]
      simp only [obs]
      exact tot_bind (tot_ite (fun _ => tot_some _) fun _ => tot_some _) fun y _ => ih _
    · simp only [ref10_uniques_L1]
      rw [if_neg (by simpa using hlt)]
      exact tot_some _
  · refine tot_loop2 (ref10_uniques_L2 m) m.fLocals.length (fun n k s hlt ih => ?_) (fun n k s hlt => ?_) _ 0 _ (by omega) (by omega)
    · simp only [ref10_uniques_L2]
      rw [if_pos (by simpa using hlt), idx_lt hlt, w64_succ hlt (by omega)]
      simp only [obs]
      exact tot_bind (tot_ite (fun _ => tot_some _) fun _ => tot_some _) fun y _ => ih _
    · simp only [ref10_uniques_L2]
      rw [if_neg (by simpa using hlt)]
      exact tot_some _
/-- It is left with true alone. -/
def TotT {S : Type} (o : Option (Ctl Bool S)) : Prop := o = some (.stop true) ∨ ∃ v, o = some (.next v)
theorem totT_bind {α S : Type} {a : Option α} {f : α → Option (Ctl Bool S)} (h : Tot a) (h2 : ∀ x, a = some x → TotT (f x)) : TotT (Option.bind a f) := by
  obtain ⟨x, rfl⟩ := h
  exact h2 x rfl
theorem totT_ite {S : Type} {b : Bool} {y : Option (Ctl Bool S)} (h2 : b = false → TotT y) : TotT (if b = true then some (.stop true) else y) := by
  cases b with
  | true => exact .inl rfl
  | false => exact h2 rfl
theorem tot_heavy3 {m : GMethod} (hg : listok (fun y => goodGStmt y) m.fBody) : ∀ (n k : Nat) (x : Int), n + k = m.fBody.length + 1 → k ≤ m.fBody.length → TotT (ref10_Heavy_L3 m n x (k : Int))
  | 0, k, x, h, hk => by omega
  | n + 1, k, x, h, hk => by
    obtain ⟨hl, hb⟩ := hg
    simp only [maxLen] at hl
    simp only [ref10_Heavy_L3]
    by_cases hlt : k < m.fBody.length
    · have hmem := hb _ (List.getElem_mem hlt)
      rw [if_pos (by simpa using hlt), idx_lt hlt, w64_succ hlt (by omega)]
      refine totT_bind (tot_ite (fun _ => tot_some _) fun _ => tot_bind (tot_some _) fun y hy => ?_) fun b _ => totT_ite fun _ => ?_
      · cases hy
        exact tot_bind (tot_much _ _ _ hmem (by omega)) fun _ _ => tot_some _
      · refine totT_bind (tot_some _) fun y hy => ?_
        cases hy
        exact totT_bind (tot_size _ _ hmem (by omega)) fun z _ => tot_heavy3 ⟨by simp only [maxLen]; omega, hb⟩ n (k + 1) _ (by omega) (by omega)
    · rw [if_neg (by simpa using hlt)]
      exact .inr ⟨_, rfl⟩
theorem tot_heavy2 {c : GClass} (hg : listok (fun y => goodGMethod y) c.fMethods) : ∀ (n k : Nat) (x : Int), n + k = c.fMethods.length + 1 → k ≤ c.fMethods.length → TotT (ref10_Heavy_L2 c n x (k : Int))
  | 0, k, x, h, hk => by omega
  | n + 1, k, x, h, hk => by
    obtain ⟨hl, hb⟩ := hg
    simp only [maxLen] at hl
    simp only [ref10_Heavy_L2, fuel_len]
    by_cases hlt : k < c.fMethods.length
    · have hmem := hb _ (List.getElem_mem hlt)
      rw [if_pos (by simpa using hlt), idx_lt hlt, w64_succ hlt (by omega)]
      refine totT_bind (tot_some _) fun m hm => ?_
      cases hm
      refine totT_bind (tot_ite (fun _ => tot_some _) fun _ => tot_ite (fun _ => tot_some _) fun _ => tot_ite (fun _ => tot_some _) fun _ => tot_bind (tot_uniques hmem) fun _ _ => tot_some _) fun b _ => totT_ite fun _ => ?_
      rcases tot_heavy3 (m := c.fMethods[k]) hmem.2.2.2.2.2.1 (c.fMethods[k].fBody.length + 1) 0 x (by omega) (by omega) with h3 | ⟨v, h3⟩
      · rw [show (0 : Int) = ((0 : Nat) : Int) from rfl, h3]; exact .inl rfl
      · rw [show (0 : Int) = ((0 : Nat) : Int) from rfl, h3]
        exact tot_heavy2 ⟨by simp only [maxLen]; omega, hb⟩ n (k + 1) v (by omega) (by omega)
    · rw [if_neg (by simpa using hlt)]
      exact .inr ⟨_, rfl⟩
theorem tot_heavy1 {p : List GClass} (hg : listok (fun y => goodGClass y) p) : ∀ (n k : Nat) (x : Int), n + k = p.length + 1 → k ≤ p.length →
    ref10_Heavy_L1 p n x (k : Int) = some (.stop true) ∨ ((∃ v, ref10_Heavy_L1 p n x (k : Int) = some (.next v)) ∧ ∀ c ∈ p.drop k, p.length ≤ 30 ∧ c.fFields.length ≤ 40)
  | 0, k, x, h, hk => by omega
  | n + 1, k, x, h, hk => by
    obtain ⟨hl, hb⟩ := hg
    simp only [maxLen] at hl
    simp only [ref10_Heavy_L1, fuel_len]
    by_cases hlt : k < p.length
    · have hmem := hb _ (List.getElem_mem hlt)
      rw [if_pos (by simpa using hlt), idx_lt hlt, w64_succ hlt (by omega)]
      simp only [obs]
      by_cases h1 : (decide ((p.length : Int) > 30)) = true
      · rw [if_pos h1]; exact .inl rfl
      rw [if_neg h1]
      by_cases h2 : (decide ((p[k].fParams.length : Int) > 20)) = true
      · rw [if_pos h2]; exact .inl rfl
      rw [if_neg h2]
      by_cases h3 : (decide ((p[k].fAbove.length : Int) > 20)) = true
      · rw [if_pos h3]; exact .inl rfl
      rw [if_neg h3]
      by_cases h4 : (decide ((p[k].fFields.length : Int) > 40)) = true
      · rw [if_pos h4]; exact .inl rfl
      rw [if_neg h4]
      simp only [obs]
      by_cases h5 : (decide ((p[k].fMethods.length : Int) > 40)) = true
      · rw [if_pos h5]; exact .inl rfl
      rw [if_neg h5]
      rcases tot_heavy2 (c := p[k]) hmem.2.2.2.2.2.1 (p[k].fMethods.length + 1) 0 x (by omega) (by omega) with h6 | ⟨v, h6⟩
      · rw [show (0 : Int) = ((0 : Nat) : Int) from rfl, h6]; exact .inl rfl
      · rw [show (0 : Int) = ((0 : Nat) : Int) from rfl, h6]
        simp only [obs, Ctl.elim]
        rcases tot_heavy1 (p := p) ⟨by simp only [maxLen]; omega, hb⟩ n (k + 1) v (by omega) (by omega) with h7 | ⟨h7, h8⟩
        · exact .inl h7
        · refine .inr ⟨h7, fun c hc => ?_⟩
          rw [List.drop_eq_getElem_cons hlt] at hc
          rcases List.mem_cons.1 hc with rfl | hc
          · simp at h1 h4; omega
          · exact h8 c hc
    · rw [if_neg (by simpa using hlt), List.drop_eq_nil_of_le (by omega)]
      exact .inr ⟨⟨_, rfl⟩, fun c hc => by simp at hc⟩
theorem heavy_eq {p : List GClass} (hg : listok (fun y => goodGClass y) p) : ∃ b, ref10_Heavy p = some b ∧ (b = false → p.length ≤ 30 ∧ ∀ c ∈ p, c.fFields.length ≤ 40) := by
  simp only [ref10_Heavy, fuel_len]
  rcases tot_heavy1 hg (p.length + 1) 0 0 (by omega) (by omega) with h | ⟨⟨v, h⟩, h2⟩
  · rw [show (0 : Int) = ((0 : Nat) : Int) from rfl] at h ⊢
    rw [h]; exact ⟨true, rfl, fun hb => by cases hb⟩
  · rw [show (0 : Int) = ((0 : Nat) : Int) from rfl] at h ⊢
    rw [h]
    refine ⟨_, rfl, fun _ => ?_⟩
    simp only [List.drop_zero] at h2
    refine ⟨?_, fun c hc => (h2 c hc).2⟩
    cases p with
    | nil => simp
    | cons c p => exact (h2 c (by simp)).1

def fidx {α : Type} (b : α → Bool) (l : List α) : Int := match l.findIdx? b with | some i => (i : Int) | none => -1
theorem fidx_some {α : Type} {b : α → Bool} {l : List α} (h : 0 ≤ fidx b l) : ∃ i : Nat, fidx b l = (i : Int) ∧ ∃ hi : i < l.length, b l[i] = true := by
  unfold fidx at h ⊢
  cases hf : l.findIdx? b with
  | none => rw [hf] at h; simp at h
  | some i =>
    rw [List.findIdx?_eq_some_iff_getElem] at hf
    obtain ⟨hi, hb, _⟩ := hf
    exact ⟨i, rfl, hi, hb⟩
def isN (name : List UInt8) (v : GVar) : Bool := v.fName == name
def plS (m : GMethod) (name : List UInt8) : Int := if 0 ≤ fidx (isN name) m.fParams then fidx (isN name) m.fParams else if fidx (isN name) m.fLocals < 0 then -1 else w_i64 ((m.fParams.length : Int) + fidx (isN name) m.fLocals)
theorem indexVar_eq {l : List GVar} (hl : l.length ≤ 9223372036854775807) (name : List UInt8) : slices_IndexFunc_api_Var l (fun (z : GVar) => scope_Place_1 z name) = some (fidx (isN name) l) := by
  unfold slices_IndexFunc_api_Var
  rw [findL (slices_IndexFunc_api_Var_L1 l (fun (z : GVar) => scope_Place_1 z name)) (b := isN name) hl (fun n x => by rw [slices_IndexFunc_api_Var_L1]; simp only [scope_Place_1, obs, isN]; rfl), obs, find_any]
  rfl
theorem scope_Place_eq {m : GMethod} (h1 : m.fParams.length ≤ 9223372036854775807) (h2 : m.fLocals.length ≤ 9223372036854775807) (name : List UInt8) : scope_Place m name = some (plS m name) := by
  unfold scope_Place plS
  rw [indexVar_eq h1, obs]
  by_cases h : 0 ≤ fidx (isN name) m.fParams
  · rw [if_pos (by simpa using h), if_pos h]
  · rw [if_neg (by simpa using h), if_neg h, indexVar_eq h2, obs]
    by_cases h' : fidx (isN name) m.fLocals < 0
    · rw [if_pos (by simpa using h'), if_pos h']
    · rw [if_neg (by simpa using h'), if_neg h']
theorem method_tot {p : List GClass} (hp : p.length ≤ 1000000) (hg : ∀ c ∈ p, goodGClass c) (f : GFrame) : ∃ c m b, frame_Method p f = some (c, m, b) ∧ m.fParams.length ≤ 9223372036854775807 ∧ m.fLocals.length ≤ 9223372036854775807 := by
  unfold frame_Method
  rw [table_Find_eq (by omega), obs]
  cases hf : fi p f.fClass with
  | none => rw [fnd_none hf, if_pos (by simp)]; exact ⟨_, _, _, rfl, by simp, by simp⟩
  | some i =>
    obtain ⟨c, hc, _⟩ := fi_spec hf
    have hi : idx p (i : Int) = some c := by rw [idx_nat]; exact hc
    have hgc := hg c (List.mem_of_getElem? hc)
    have hml := hgc.2.2.2.2.2.1
    have hll := hml.1
    simp only [maxLen] at hll
    rw [fnd_some hf, if_neg (by simp), hi, obs]
    have hix : slices_IndexFunc_api_Method c.fMethods (fun (z13 : GMethod) => frame_Method_1 z13 f) = some (fidx (fun z => z.fName == f.fMethod) c.fMethods) := by
      unfold slices_IndexFunc_api_Method
      rw [findL (slices_IndexFunc_api_Method_L1 c.fMethods (fun (z13 : GMethod) => frame_Method_1 z13 f)) (b := fun z => z.fName == f.fMethod) (by omega) (fun n x => by rw [slices_IndexFunc_api_Method_L1]; simp only [frame_Method_1, obs]), obs, find_any]
      rfl
    rw [hix, obs]
    by_cases h0 : fidx (fun z : GMethod => z.fName == f.fMethod) c.fMethods < 0
    · rw [if_pos (by simpa using h0)]; exact ⟨_, _, _, rfl, by simp, by simp⟩
    · rw [if_neg (by simpa using h0)]
      obtain ⟨k, e, hk, _⟩ := fidx_some (show 0 ≤ fidx (fun z : GMethod => z.fName == f.fMethod) c.fMethods by omega)
      rw [e]
      simp only [obs, idx_lt hk]
      have hm := hml.2 _ (List.getElem_mem hk)
      have l1 := hm.2.2.2.1.1
      have l2 := hm.2.2.2.2.1.1
      simp only [maxLen] at l1 l2
      exact ⟨_, _, _, rfl, by omega, by omega⟩
def plc (m : GMethod) (b : Bool) (n : Nat) (name : List UInt8) : Int := if b = true ∧ plS m name < (n : Int) then plS m name else -1
theorem plc_lt (m : GMethod) (b : Bool) (n : Nat) (name : List UInt8) : plc m b n name < 0 ∨ (0 ≤ plc m b n name ∧ plc m b n name < (n : Int) ∧ plc m b n name = plS m name) := by
  unfold plc
  split
  · rename_i h
    by_cases h0 : plS m name < 0
    · exact .inl h0
    · exact .inr ⟨by omega, h.2, rfl⟩
  · exact .inl (by omega)
theorem frame_place_eq {p : List GClass} {f : GFrame} {c : GClass} {m : GMethod} {b : Bool} (hM : frame_Method p f = some (c, m, b)) (h1 : m.fParams.length ≤ 9223372036854775807) (h2 : m.fLocals.length ≤ 9223372036854775807) (name : List UInt8) : frame_place p f name = some (plc m b f.fVars.length name) := by
  unfold frame_place plc
  rw [hM, obs, scope_Place_eq h1 h2, obs]
  cases b with
  | false => rw [if_neg (by simp), obs, if_neg (by simp), if_neg (by simp)]
  | true =>
    rw [if_pos rfl, obs]
    by_cases h : plS m name < (f.fVars.length : Int)
    · rw [if_pos (by simpa using h), if_pos ⟨rfl, h⟩]
    · rw [if_neg (by simpa using h), if_neg (fun x => h x.2)]
def thisT : List UInt8 := [116, 104, 105, 115]
def getS (m : GMethod) (b : Bool) (f : GFrame) (name : List UInt8) : GVal × Bool := if name = thisT ∧ b = true then (⟨true, f.fThis⟩, true) else match idx f.fVars (plc m b f.fVars.length name) with | some v => (v, true) | none => (⟨false, 0⟩, false)
theorem frame_Get_eq {p : List GClass} {f : GFrame} {c : GClass} {m : GMethod} {b : Bool} (hM : frame_Method p f = some (c, m, b)) (h1 : m.fParams.length ≤ 9223372036854775807) (h2 : m.fLocals.length ≤ 9223372036854775807) (name : List UInt8) : frame_Get p f name = some (getS m b f name) := by
  have key : ∀ _ : Unit, (Option.bind (frame_place p f name) fun (y9 : Int) =>
      if (decide (y9 < 0)) = true then some (({ fRef := false, fN := 0 } : GVal), false) else Option.bind (idx f.fVars y9) fun (y12 : GVal) => some (y12, true)) = some (match idx f.fVars (plc m b f.fVars.length name) with | some v => (v, true) | none => ((⟨false, 0⟩ : GVal), false)) := by
    intro _
    rw [frame_place_eq hM h1 h2, obs]
    rcases plc_lt m b f.fVars.length name with h | ⟨h, h', _⟩
    · rw [if_pos (by simpa using h), idx_neg h]
    · rw [if_neg (by simpa using h), idx_in h h', obs]
  unfold frame_Get getS
  by_cases ht : name = thisT
  · rw [if_pos (by simp [ht, thisT]), hM]
    cases b with
    | true => rw [if_pos ⟨ht, rfl⟩]; rfl
    | false => rw [if_neg (by simp)]; exact key ()
  · rw [if_neg (by simpa [thisT] using ht), if_neg (fun h => ht h.1)]; exact key ()
/-! ### The worth of an expression. -/
def bitS (b : Bool) : Int := if b = true then 1 else 0
theorem calc_bit_eq (b : Bool) : calc_bit b = some (bitS b) := by cases b <;> rfl
def sgnS (k a b : Int) : Int := if k = 6 then w_i64 (a + b) else if k = 7 then w_i64 (a - b) else if k = 8 then w_i64 (a * b) else if k = 9 then bitS (decide (a < b)) else if k = 10 ∨ k = 14 then bitS (a == b) else if k = 11 then andI .i64 (bitS (a != 0)) (bitS (b != 0)) else bitS (a == 0)
theorem calc_sign_eq (k a b : Int) : ∃ c, calc_sign k = some c ∧ c.q (a, b) = some (sgnS k a b) := by
  unfold calc_sign sgnS
  by_cases h6 : k = 6
  · subst h6; exact ⟨_, rfl, rfl⟩
  by_cases h7 : k = 7
  · subst h7; exact ⟨_, rfl, rfl⟩
  by_cases h8 : k = 8
  · subst h8; exact ⟨_, rfl, rfl⟩
  by_cases h9 : k = 9
  · subst h9
    refine ⟨_, rfl, ?_⟩
    show calc_sign_4 a b = _
    unfold calc_sign_4
    rw [calc_bit_eq]; rfl
  have e6 : (k == 6) = false := by simpa using h6
  have e7 : (k == 7) = false := by simpa using h7
  have e8 : (k == 8) = false := by simpa using h8
  have e9 : (k == 9) = false := by simpa using h9
  rw [if_neg h6, if_neg h7, if_neg h8, if_neg h9]
  simp only [e6, e7, e8, e9, Bool.false_eq_true, if_false]
  by_cases h10 : k = 10 ∨ k = 14
  · rw [if_pos h10]
    have e : (Option.bind (if (k == 10) = true then some (k == 10) else some (k == 14) : Option Bool) fun x6 => if x6 = true then some (⟨99, [], fun z => calc_sign_5 z.1 z.2, Tryd_cal_99, fun z r h => calc_sign_5_ok h⟩ : Clo0) else if (k == 11) = true then some (⟨100, [], fun z => calc_sign_6 z.1 z.2, Tryd_cal_100, fun z r h => calc_sign_6_ok h⟩ : Clo0) else some (⟨101, [], fun z => calc_sign_7 z.1 z.2, Tryd_cal_101, fun z r h => calc_sign_7_ok h⟩ : Clo0)) = some (⟨99, [], fun z => calc_sign_5 z.1 z.2, Tryd_cal_99, fun z r h => calc_sign_5_ok h⟩ : Clo0) := by
      rcases h10 with h | h <;> subst h <;> rfl
    rw [e]
    refine ⟨_, rfl, ?_⟩
    show calc_sign_5 a b = _
    unfold calc_sign_5
    rw [calc_bit_eq]; rfl
  · rw [if_neg h10]
    have e10 : (k == 10) = false := by simp; omega
    have e14 : (k == 14) = false := by simp; omega
    simp only [e10, e14, Bool.false_eq_true, if_false, obs]
    by_cases h11 : k = 11
    · subst h11
      refine ⟨_, rfl, ?_⟩
      show calc_sign_6 a b = _
      unfold calc_sign_6
      rw [calc_bit_eq, calc_bit_eq]; rfl
    · have e11 : (k == 11) = false := by simpa using h11
      simp only [e11, Bool.false_eq_true, if_false]
      refine ⟨_, rfl, ?_⟩
      show calc_sign_7 a b = _
      unfold calc_sign_7
      rw [calc_bit_eq, if_neg h11]; rfl
mutual
def evS (gt : List UInt8 → Option GVal) (th : Int) : GExpr → List Int → Option (GVal × List Int)
  | ⟨k, n, nm, l⟩, inp => if k = 1 then some (⟨false, n⟩, inp) else if k = 2 then (gt nm).map (fun v => (v, inp)) else if k = 3 then some (⟨true, th⟩, inp) else if k = 4 then some (⟨true, 0⟩, inp) else if k = 5 then some (⟨false, inp.headD 0⟩, inp.tail)
    else (evL gt th (decide (k = 13) || decide (k = 14)) l inp).map (fun r => (⟨false, sgnS k (r.1.headD 0) (r.1.getLastD 0)⟩, r.2))
def evL (gt : List UInt8 → Option GVal) (th : Int) (rf : Bool) : List GExpr → List Int → Option (List Int × List Int)
  | [], inp => some ([], inp)
  | x :: l, inp => match evS gt th x inp with
    | none => none
    | some (v, i2) => if v.fRef = rf then (evL gt th rf l i2).map (fun r => (v.fN :: r.1, r.2)) else none
end
theorem evS_eq (gt : List UInt8 → Option GVal) (th : Int) (e : GExpr) (inp : List Int) : evS gt th e inp = if e.fKind = 1 then some (⟨false, e.fNum⟩, inp) else if e.fKind = 2 then (gt e.fName).map (fun v => (v, inp)) else if e.fKind = 3 then some (⟨true, th⟩, inp) else if e.fKind = 4 then some (⟨true, 0⟩, inp) else if e.fKind = 5 then some (⟨false, inp.headD 0⟩, inp.tail)
    else (evL gt th (decide (e.fKind = 13) || decide (e.fKind = 14)) e.fKids inp).map (fun r => (⟨false, sgnS e.fKind (r.1.headD 0) (r.1.getLastD 0)⟩, r.2)) := by cases e; simp only [evS]
theorem take_eq (b : Gcounter_calc) : __calc_counter__take_w b = some (b.fin.headD 0, { b with fin := b.fin.tail }) := by
  unfold __calc_counter__take_w
  cases h : b.fin with
  | nil => simp; rw [← h]
  | cons x l =>
    simp [idx, cutL]
    rw [if_neg (by omega), if_pos (by omega), obs]
theorem evL_len {gt : List UInt8 → Option GVal} {th : Int} {rf : Bool} : ∀ {l : List GExpr} {inp : List Int} {r : List Int × List Int}, evL gt th rf l inp = some r → r.1.length = l.length
  | [], inp, r, h => by simp only [evL] at h; cases h; rfl
  | x :: l, inp, r, h => by
    simp only [evL] at h
    split at h
    · cases h
    · split at h
      · cases hr : evL gt th rf l _ with
        | none => rw [hr] at h; cases h
        | some r' =>
          rw [hr] at h; cases h
          simp [evL_len hr]
      · cases h
def okW (gt : List UInt8 → Option GVal) (th : Int) (e : GExpr) (b : Gcounter_calc) (o : Option (GVal × Gcounter_calc)) : Prop := match evS gt th e b.fin with
  | some (v, i) => o = some (v, { b with fin := i })
  | none => ∃ v b', o = some (v, b') ∧ b'.fbad = true
theorem ofW_L {gt : List UInt8 → Option GVal} {th : Int} {e : GExpr} {rf : Bool} (he : e.fKids.length ≤ 1000000) {rec : GExpr → Gcounter_calc → Option (GVal × Gcounter_calc)} {p : List GClass} {f : GFrame}
    (hr : ∀ y ∈ e.fKids, ∀ b : Gcounter_calc, b.fbad = false → b.fp = p → b.ff = f → okW gt th y b (rec y b)) :
    ∀ (n k : Nat) (b : Gcounter_calc) (ns : List Int), n + k = e.fKids.length + 1 → k ≤ e.fKids.length → ns.length = k → b.fbad = false → b.fp = p → b.ff = f →
      match evL gt th rf (e.fKids.drop k) b.fin with
      | some r => __calc_counter__of_w_L1 e rf rec n b ns (k : Int) = some (.next ({ b with fin := r.2 }, ns ++ r.1))
      | none => ∃ v b', __calc_counter__of_w_L1 e rf rec n b ns (k : Int) = some (.stop (v, b')) ∧ b'.fbad = true
  | 0, k, b, ns, h, hk, _, _, _, _ => by omega
  | n + 1, k, b, ns, h, hk, hns, hb, hp, hf => by
    rw [__calc_counter__of_w_L1]
    by_cases hlt : k < e.fKids.length
    · rw [if_pos (by simpa using hlt), idx_lt hlt, obs, List.drop_eq_getElem_cons hlt, evL]
      have h1 := hr _ (List.getElem_mem hlt) b hb hp hf
      unfold okW at h1
      cases hv : evS gt th e.fKids[k] b.fin with
      | none =>
        rw [hv] at h1
        obtain ⟨v, b', h2, h3⟩ := h1
        rw [h2]
        simp only [obs, h3, if_true, __calc_counter__fail_w]
        exact ⟨_, _, rfl, rfl⟩
      | some vi =>
        obtain ⟨v, i⟩ := vi
        rw [hv] at h1
        have h1 : rec e.fKids[k] b = some (v, { b with fin := i }) := h1
        rw [h1]
        simp only [obs, hb, Bool.false_eq_true, if_false]
        by_cases hq : v.fRef = rf
        · have ih := ofW_L (gt := gt) (th := th) (rf := rf) he hr n (k + 1) { b with fin := i } (ns ++ [v.fN]) (by omega) (by omega) (by simp; omega) hb hp hf
          have hroom : room ((ns.length : Int) + ([v.fN].length : Int)) 8 = some () := room_ok (by simp; omega)
          rw [if_pos hq]
          simp only [hq, beq_self_eq_true, Bool.not_true, Bool.false_eq_true, if_false, hroom, obs, w64_succ hlt (show e.fKids.length ≤ 9223372036854775807 by omega)]
          cases hL : evL gt th rf (e.fKids.drop (k + 1)) i with
          | none =>
            rw [hL] at ih
            rw [← hb] at *
            exact ih
          | some r =>
            rw [hL] at ih
            rw [← hb] at *
            simp only [Option.map_some]
            rw [show ns ++ (v.fN :: r.1) = ns ++ [v.fN] ++ r.1 by simp]
            exact ih
        · rw [if_neg hq]
          have hq' : (!(v.fRef == rf)) = true := by simpa using hq
          simp only [hq', if_true, __calc_counter__fail_w, obs]
          exact ⟨_, _, rfl, rfl⟩
    · rw [if_neg (by simpa using hlt), List.drop_eq_nil_of_le (by omega), evL]
      simp
theorem head_idx {l : List Int} (h : 0 < l.length) : idx l 0 = some (l.headD 0) := by cases l with
  | nil => simp at h
  | cons x l => rfl
theorem last_idx {l : List Int} (h : 0 < l.length) (hl : l.length ≤ 1000000) : idx l (w_i64 ((l.length : Int) - 1)) = some (l.getLastD 0) := by
  rw [w64 (by omega) (by omega), show (l.length : Int) - 1 = ((l.length - 1 : Nat) : Int) by omega, idx_lt (show l.length - 1 < l.length by omega)]
  cases l with
  | nil => simp at h
  | cons x l => simp [List.getLastD, List.getLast_eq_getElem]
theorem kids_pos {e : GExpr} (h : fS e = true) (h1 : e.fKind ≠ 1) (h2 : e.fKind ≠ 2) (h3 : e.fKind ≠ 3) (h4 : e.fKind ≠ 4) (h5 : e.fKind ≠ 5) : 0 < e.fKids.length ∧ e.fKids.length ≤ 2 := by
  rw [fS_eq, plnS, headS] at h
  simp only [Bool.and_eq_true, decide_eq_true_eq] at h
  have hk := h.1.1.1
  unfold kidsS at hk
  split at hk
  · omega
  · split at hk
    · omega
    · split at hk <;> omega
theorem kid_fS {e : GExpr} (h : fS e = true) {y : GExpr} (hy : y ∈ e.fKids) : fS y = true := by
  rw [fS_eq, Bool.and_eq_true] at h
  exact List.all_eq_true.1 h.2 y hy
theorem ofW_eq {gt : List UInt8 → Option GVal} {p : List GClass} {f : GFrame} (hg : ∀ nm, ∃ v0, frame_Get p f nm = some (match gt nm with | some v => (v, true) | none => (v0, false))) :
    ∀ (n : Nat) (e : GExpr) (b : Gcounter_calc), mGExpr e ≤ 1000000 → mGExpr e < n → fS e = true → b.fbad = false → b.fp = p → b.ff = f → okW gt f.fThis e b (__calc_counter__of_w n e b)
  | n + 1, e, b, he, hn, hS, hb, hp, hf => by
    subst hp
    subst hf
    have hk := kids_len e
    unfold okW
    rw [evS_eq, __calc_counter__of_w]
    by_cases k1 : e.fKind = 1
    · simp [k1]
    by_cases k2 : e.fKind = 2
    · obtain ⟨v0, hv⟩ := hg e.fName
      rw [hv]
      cases hgt : gt e.fName with
      | none =>
        simp [k2, __calc_counter__fail_w]
        exact ⟨_, _, ⟨rfl, rfl⟩, rfl⟩
      | some v => simp [k2, obs]
    by_cases k3 : e.fKind = 3
    · simp [k3]
    by_cases k4 : e.fKind = 4
    · simp [k4]
    by_cases k5 : e.fKind = 5
    · simp [k5, take_eq, obs]
    have e1 : (e.fKind == 1) = false := by simpa using k1
    have e2 : (e.fKind == 2) = false := by simpa using k2
    have e3 : (e.fKind == 3) = false := by simpa using k3
    have e4 : (e.fKind == 4) = false := by simpa using k4
    have e5 : (e.fKind == 5) = false := by simpa using k5
    obtain ⟨hpos, hle⟩ := kids_pos hS k1 k2 k3 k4 k5
    have hx : (if (e.fKind == 13) = true then some true else some (e.fKind == 14) : Option Bool) = some (decide (e.fKind = 13) || decide (e.fKind = 14)) := by
      by_cases h13 : e.fKind = 13
      · simp [h13]
      · simp [h13]; rfl
    simp only [k1, k2, k3, k4, k5, e1, e2, e3, e4, e5, if_false, Bool.false_eq_true, hx, obs]
    have hl := ofW_L (gt := gt) (th := b.ff.fThis) (e := e) (rf := decide (e.fKind = 13) || decide (e.fKind = 14)) (by omega) (rec := __calc_counter__of_w n) (p := b.fp) (f := b.ff) (fun y hy b' h1 h2 h3 => ofW_eq hg n y b' (by have := kid_lt hy; omega) (by have := kid_lt hy; omega) (kid_fS hS hy) h1 h2 h3) ((((e.fKids.length : Int) : Int) - (0)).toNat + 1) 0 b [] (by omega) (by omega) rfl hb rfl rfl
    rw [List.drop_zero, show ((0 : Nat) : Int) = 0 from rfl] at hl
    cases hL : evL gt b.ff.fThis (decide (e.fKind = 13) || decide (e.fKind = 14)) e.fKids b.fin with
    | none =>
      rw [hL] at hl
      obtain ⟨v, b', h1, h2⟩ := hl
      rw [h1]
      exact ⟨v, b', rfl, h2⟩
    | some r =>
      rw [hL] at hl
      have hl : __calc_counter__of_w_L1 e (decide (e.fKind = 13) || decide (e.fKind = 14)) (__calc_counter__of_w n) ((((e.fKids.length : Int) : Int) - (0)).toNat + 1) b [] 0 = some (.next ({ b with fin := r.2 }, [] ++ r.1)) := hl
      have hlen := evL_len hL
      obtain ⟨c, hc, hq⟩ := calc_sign_eq e.fKind (r.1.headD 0) (r.1.getLastD 0)
      rw [hl]
      simp only [obs, Ctl.elim, List.nil_append, hc, head_idx (show 0 < r.1.length by omega), last_idx (show 0 < r.1.length by omega) (by omega), hq, Option.map_some]
mutual
def cE : GExpr → Nat
  | ⟨k, _, _, l⟩ => (if k = 5 then 1 else 0) + cL l
def cL : List GExpr → Nat
  | [] => 0
  | x :: l => cE x + cL l
end
theorem cE_eq (e : GExpr) : cE e = (if e.fKind = 5 then 1 else 0) + cL e.fKids := by cases e; simp only [cE]
theorem evL_drop {gt : List UInt8 → Option GVal} {th : Int} {rf : Bool} : ∀ {l : List GExpr}, (∀ y ∈ l, ∀ inp v i, evS gt th y inp = some (v, i) → i = inp.drop (cE y)) → ∀ {inp : List Int} {r : List Int × List Int}, evL gt th rf l inp = some r → r.2 = inp.drop (cL l)
  | [], _, inp, r, h => by simp only [evL] at h; cases h; simp [cL]
  | x :: l, hy, inp, r, h => by
    simp only [evL] at h
    split at h
    · cases h
    · rename_i v i2 hv
      split at h
      · cases hr : evL gt th rf l i2 with
        | none => rw [hr] at h; cases h
        | some r' =>
          rw [hr] at h; cases h
          have h1 := hy x (by simp) _ _ _ hv
          have h2 := evL_drop (fun y hm => hy y (by simp [hm])) hr
          simp only [h2, h1, cL, List.drop_drop]
      · cases h
theorem no_kids {e : GExpr} (h : fS e = true) (h1 : 1 ≤ e.fKind ∧ e.fKind ≤ 5) : e.fKids = [] := by
  rw [fS_eq, plnS, headS] at h
  simp only [Bool.and_eq_true, decide_eq_true_eq] at h
  have hk := h.1.1.1
  unfold kidsS at hk
  rw [if_pos h1] at hk
  exact List.eq_nil_of_length_eq_zero (by omega)
theorem evS_drop {gt : List UInt8 → Option GVal} {th : Int} : ∀ (n : Nat) (e : GExpr), mGExpr e < n → fS e = true → ∀ inp v i, evS gt th e inp = some (v, i) → i = inp.drop (cE e)
  | n + 1, e, hn, hS, inp, v, i, h => by
    rw [evS_eq] at h
    rw [cE_eq]
    by_cases k1 : e.fKind = 1
    · simp only [k1, if_true] at h; cases h; rw [no_kids hS (by omega)]; simp [k1, cL]
    by_cases k2 : e.fKind = 2
    · simp only [k2] at h
      cases hg : gt e.fName with
      | none => rw [hg] at h; simp at h
      | some w => rw [hg] at h; simp at h; rw [no_kids hS (by omega)]; simp [k2, cL, h.2]
    by_cases k3 : e.fKind = 3
    · simp [k3] at h; rw [no_kids hS (by omega)]; simp [k3, cL, h.2]
    by_cases k4 : e.fKind = 4
    · simp [k4] at h; rw [no_kids hS (by omega)]; simp [k4, cL, h.2]
    by_cases k5 : e.fKind = 5
    · simp [k5] at h; rw [no_kids hS (by omega)]; simp [k5, cL, ← h.2]
    simp only [k1, k2, k3, k4, k5, if_false] at h
    cases hL : evL gt th (decide (e.fKind = 13) || decide (e.fKind = 14)) e.fKids inp with
    | none => rw [hL] at h; cases h
    | some r =>
      rw [hL] at h; cases h
      rw [if_neg k5, Nat.zero_add]
      exact evL_drop (fun y hy => evS_drop n y (by have := kid_lt hy; omega) (kid_fS hS hy)) hL
def badV : GVal := ⟨false, 0⟩
def ofS (gt : List UInt8 → Option GVal) (th : Int) (e : GExpr) (inp : List Int) : GVal × List Int × Int := if rightS e = true then (match evS gt th e inp with | some (v, i) => (v, i, 0) | none => (badV, [], 10)) else (badV, [], 10)
theorem five_m : ∀ (n : Nat) (e : GExpr), mGExpr e ≤ n → 5 * mGExpr e ≤ uGExpr e
  | 0, e, h => by have := mG_eq e; omega
  | n + 1, e, h => by
    have h1 := mG_eq e
    have h2 := uGExpr_eq e
    have : ∀ l : List GExpr, (∀ x ∈ l, 5 * mGExpr x ≤ uGExpr x) → 5 * mLGExpr l ≤ lsum uGExpr l := by
      intro l
      induction l with
      | nil => intro _; simp [mLGExpr]
      | cons x l ih =>
        intro hx
        have a := hx x (by simp)
        have b := ih (fun y hy => hx y (by simp [hy]))
        simp only [mLGExpr, lsum]; omega
    have h3 := this e.fKids (fun x hx => five_m n x (by have := kid_lt hx; omega))
    omega
theorem law39_awake_eq : law39_awake = some true := by decide +kernel
theorem bGVal_refl' (v : GVal) : bGVal v v = true := by unfold bGVal; simp
theorem great_eq {p : List GClass} (hg : listok (fun y => goodGClass y) p) {h : GHere_law39} {e : GExpr} (he : mGExpr e ≤ 1000000) : ∃ b, law39_great p h e = some b ∧ (b = false → p.length ≤ 30 ∧ h.fF.fVars.length ≤ 100 ∧ h.fIn.length ≤ 300) := by
  obtain ⟨b, hb, hb2⟩ := heavy_eq hg
  obtain ⟨s, hs, _⟩ := ref06_Size_eq (mGExpr e + 1) e he (by omega)
  unfold law39_great
  rw [hb, obs]
  cases b with
  | true => exact ⟨true, rfl, fun h => by cases h⟩
  | false =>
    rw [if_neg (by simp)]
    by_cases g1 : (h.fF.fVars.length : Int) > 100
    · rw [if_pos (by simpa using g1)]; exact ⟨true, rfl, fun h => by cases h⟩
    · rw [if_neg (by simpa using g1)]
      by_cases g2 : (h.fIn.length : Int) > 300
      · rw [if_pos (by simpa using g2)]; exact ⟨true, rfl, fun h => by cases h⟩
      · rw [if_neg (by simpa using g2), hs, obs]
        exact ⟨_, rfl, fun _ => ⟨(hb2 rfl).1, by omega, by omega⟩⟩
def gtS (m : GMethod) (b : Bool) (f : GFrame) (nm : List UInt8) : Option GVal := if (getS m b f nm).2 = true then some (getS m b f nm).1 else none
theorem ints_L {l : List Int} (hl : l.length ≤ 1000000) : ∀ (n k : Nat), n + k = l.length + 1 → k ≤ l.length → law39_ints_L1 l l n (k : Int) = some (.next ())
  | 0, k, h, hk => by omega
  | n + 1, k, h, hk => by
    rw [law39_ints_L1]
    by_cases hlt : k < l.length
    · rw [if_pos (by simpa using hlt), idx_lt hlt, obs, obs, if_neg (by simp), w64_succ hlt (by omega)]
      exact ints_L hl n (k + 1) (by omega) (by omega)
    · rw [if_neg (by simpa using hlt)]
theorem ints_same {l : List Int} (hl : l.length ≤ 1000000) : law39_ints l l = some true := by
  unfold law39_ints
  have := ints_L hl ((((l.length : Int) : Int) - (0)).toNat + 1) 0 (by omega) (by omega)
  rw [show ((0 : Nat) : Int) = 0 from rfl] at this
  rw [if_neg (by simp), this]; rfl

/-! ### A frame's variables, by the document. -/
theorem lsum_mem' {α : Type} {u : α → Nat} : ∀ {l : List α} {x : α}, x ∈ l → u x ≤ lsum u l
  | y :: l, x, h => by
    simp only [lsum]
    rcases List.mem_cons.1 h with rfl | h
    · omega
    · have := lsum_mem' (u := u) h; omega
theorem lsum_len' {α : Type} {u : α → Nat} (h : ∀ x, 1 ≤ u x) : ∀ l : List α, l.length ≤ lsum u l
  | [] => by simp
  | x :: l => by
    have := lsum_len' h l
    have := h x
    simp only [lsum, List.length_cons]; omega
theorem meth_small {p : List GClass} (hu : lsum uGClass p ≤ 1048576) {c : GClass} (hc : c ∈ p) {m : GMethod} (hm : m ∈ c.fMethods) : m.fParams.length ≤ 1048576 ∧ m.fLocals.length ≤ 1048576 := by
  have h1 := lsum_mem' (u := uGClass) hc
  have h2 := lsum_mem' (u := uGMethod) hm
  have h3 := lsum_len' (u := uGVar) (fun x => by unfold uGVar; omega) m.fParams
  have h4 := lsum_len' (u := uGVar) (fun x => by unfold uGVar; omega) m.fLocals
  have e1 : lsum uGMethod c.fMethods ≤ uGClass c := by unfold uGClass; omega
  have e2 : lsum uGVar m.fParams + lsum uGVar m.fLocals ≤ uGMethod m := by unfold uGMethod; omega
  omega
theorem mLM_len : ∀ l : List GMethod, l.length ≤ mLGMethod l
  | [] => by simp
  | x :: l => by
    have := mLM_len l
    cases x
    simp only [mLGMethod, mGMethod, List.length_cons]; omega
theorem mLC_mem : ∀ {p : List GClass} {c : GClass}, c ∈ p → c.fMethods.length ≤ mLGClass p
  | d :: p, c, h => by
    simp only [mLGClass]
    rcases List.mem_cons.1 h with rfl | h
    · have := mLM_len c.fMethods
      cases c
      simp only [mGClass] at *; omega
    · have := mLC_mem h; omega
theorem find_fidx {α : Type} (b : α → Bool) : ∀ l : List α, l.find? b = (l.findIdx? b).bind fun j => l[j]?
  | [] => rfl
  | x :: l => by
    rw [List.find?_cons, List.findIdx?_cons]
    cases h : b x with
    | true => simp
    | false =>
      have := find_fidx b l
      cases hf : l.findIdx? b with
      | none => rw [hf] at this; simpa using this
      | some j => rw [hf] at this; simpa using this
theorem refM_L {p : List GClass} {f : GFrame} {i : Nat} {c : GClass} (hi : idx p (i : Int) = some c) (hl : c.fMethods.length ≤ 2000000) : ∀ n k : Nat, c.fMethods.length + 1 ≤ n + k → k ≤ c.fMethods.length →
    ref38_Method_L1 p f (i : Int) n (k : Int) = some (match (c.fMethods.drop k).find? (fun z => z.fName == f.fMethod) with | some m => .stop (c, m, true) | none => .next ())
  | 0, k, h, hk => by omega
  | n + 1, k, h, hk => by
    rw [ref38_Method_L1, if_pos (by simp), hi, obs]
    by_cases hlt : k < c.fMethods.length
    · simp only [obs, idx_lt hlt]
      rw [if_pos (by simpa using hlt), List.drop_eq_getElem_cons hlt, List.find?_cons]
      cases hb : (c.fMethods[k].fName == f.fMethod) with
      | true => rfl
      | false =>
        rw [w64_succ hlt (by omega), refM_L hi hl n (k + 1) (by omega) (by omega)]
        rfl
    · simp only [obs]
      rw [if_neg (by simpa using hlt), List.drop_eq_nil_of_le (by omega)]; rfl
theorem ref38_Method_eq {p : List GClass} (hp : p.length ≤ 1000000) (hu : lsum uGClass p ≤ 1048576) (f : GFrame) : ref38_Method p f = frame_Method p f := by
  unfold ref38_Method frame_Method
  rw [table_Find_eq (by omega), ref13_Find_eq (by omega), obs, obs]
  cases hf : fi p f.fClass with
  | none => rw [fnd_none hf, if_pos (by simp), ref38_Method_L1]; simp [obs, Ctl.elim]
  | some i =>
    obtain ⟨c, hc, _⟩ := fi_spec hf
    have hi : idx p (i : Int) = some c := by rw [idx_nat]; exact hc
    have hmem := List.mem_of_getElem? hc
    have hfu := mLC_mem hmem
    have hsm : c.fMethods.length ≤ 1048576 := by
      have h1 := lsum_mem' (u := uGClass) hmem
      have h2 := lsum_len' (u := uGMethod) (fun x => by unfold uGMethod; omega) c.fMethods
      have e1 : lsum uGMethod c.fMethods ≤ uGClass c := by unfold uGClass; omega
      omega
    rw [fnd_some hf, if_neg (by simp), hi, obs]
    have hL := refM_L (f := f) hi (by omega) (mLGClass p + 1) 0 (by omega) (by omega)
    rw [show ((0 : Nat) : Int) = 0 from rfl, List.drop_zero, find_fidx] at hL
    have hix : slices_IndexFunc_api_Method c.fMethods (fun (z13 : GMethod) => frame_Method_1 z13 f) = some (fidx (fun z => z.fName == f.fMethod) c.fMethods) := by
      unfold slices_IndexFunc_api_Method
      rw [findL (slices_IndexFunc_api_Method_L1 c.fMethods (fun (z13 : GMethod) => frame_Method_1 z13 f)) (b := fun z => z.fName == f.fMethod) (by omega) (fun n x => by rw [slices_IndexFunc_api_Method_L1]; simp only [frame_Method_1, obs]), obs, find_any]
      rfl
    rw [hix, obs, hL]
    unfold fidx
    cases hx : c.fMethods.findIdx? (fun z => z.fName == f.fMethod) with
    | none => rw [if_pos (by simp)]; rfl
    | some j =>
      have hj := (List.findIdx?_eq_some_iff_getElem.1 hx).1
      rw [if_neg (by simp)]
      simp only [obs, idx_lt hj, Option.bind_some, List.getElem?_eq_getElem hj, Ctl.elim]
theorem method_small {p : List GClass} {f : GFrame} {c : GClass} {m : GMethod} {b : Bool} (hp : p.length ≤ 1000000) (hu : lsum uGClass p ≤ 1048576) (h : ref38_Method p f = some (c, m, b)) : m.fParams.length ≤ 1048576 ∧ m.fLocals.length ≤ 1048576 := by
  unfold ref38_Method at h
  rw [ref13_Find_eq (by omega), obs] at h
  cases hf : fi p f.fClass with
  | none => rw [fnd_none hf, ref38_Method_L1] at h; simp [obs, Ctl.elim] at h; rw [← h.2.1]; simp
  | some i =>
    obtain ⟨c', hc, _⟩ := fi_spec hf
    have hi : idx p (i : Int) = some c' := by rw [idx_nat]; exact hc
    have hmem := List.mem_of_getElem? hc
    have hfu := mLC_mem hmem
    have hsm : c'.fMethods.length ≤ 1048576 := by
      have h1 := lsum_mem' (u := uGClass) hmem
      have h2 := lsum_len' (u := uGMethod) (fun x => by unfold uGMethod; omega) c'.fMethods
      have e1 : lsum uGMethod c'.fMethods ≤ uGClass c' := by unfold uGClass; omega
      omega
    have hL := refM_L (f := f) hi (by omega) (mLGClass p + 1) 0 (by omega) (by omega)
    rw [show ((0 : Nat) : Int) = 0 from rfl, List.drop_zero] at hL
    rw [fnd_some hf, hL] at h
    cases hx : c'.fMethods.find? (fun z => z.fName == f.fMethod) with
    | none => rw [hx] at h; simp [Ctl.elim] at h; rw [← h.2.1]; simp
    | some m' =>
      rw [hx] at h
      simp [Ctl.elim] at h
      have := List.mem_of_find?_eq_some hx
      rw [← h.2.1]
      exact meth_small hu hmem this
theorem ref18_Place_plS {m : GMethod} (h1 : m.fParams.length ≤ 1048576) (h2 : m.fLocals.length ≤ 1048576) (name : List UInt8) : ref18_Place m name = some (plS m name) := by
  unfold ref18_Place ref12_Vars
  rw [room_ok (by simp; omega), obs, room_ok (by simp; omega), obs, obs, List.nil_append]
  have hl : (m.fParams ++ m.fLocals).length ≤ 9223372036854775807 := by simp; omega
  rw [findL (ref18_Place_L1 name (m.fParams ++ m.fLocals)) (b := isN name) hl (fun n x => by rw [ref18_Place_L1]; rfl), obs, find_any, List.findIdx?_append]
  unfold plS fidx
  cases hp : m.fParams.findIdx? (isN name) with
  | some i => simp
  | none =>
    cases hq : m.fLocals.findIdx? (isN name) with
    | none => simp
    | some j =>
      have := (List.findIdx?_eq_some_iff_getElem.1 hq).1
      simp
      rw [if_neg (by omega), w64 (by omega) (by omega)]
      exact Int.add_comm _ _
theorem ref38_Get_eq {p : List GClass} {f : GFrame} {c : GClass} {m : GMethod} {b : Bool} (hM : ref38_Method p f = some (c, m, b)) (h1 : m.fParams.length ≤ 1048576) (h2 : m.fLocals.length ≤ 1048576) (name : List UInt8) : ref38_Get p f name = some (getS m b f name) := by
  have hpl : ref38_place p f name = some (plc m b f.fVars.length name) := by
    unfold ref38_place plc
    rw [hM, obs, ref18_Place_plS h1 h2, obs]
    cases b with
    | false => simp [obs]
    | true =>
      by_cases h : plS m name < (f.fVars.length : Int)
      · simp [h, obs, show ¬ (f.fVars.length : Int) ≤ plS m name by omega]
      · simp [h, obs, show (f.fVars.length : Int) ≤ plS m name by omega]
  unfold ref38_Get getS
  rw [hM, obs]
  have hrest : (Option.bind (ref38_place p f name) fun (y12 : Int) => if (decide (y12 < 0)) = true then some (({ fRef := false, fN := 0 } : GVal), false) else Option.bind (idx f.fVars y12) fun (y15 : GVal) => some (y15, true)) = some (match idx f.fVars (plc m b f.fVars.length name) with | some v => (v, true) | none => ((⟨false, 0⟩ : GVal), false)) := by
    rw [hpl, obs]
    rcases plc_lt m b f.fVars.length name with h | ⟨h, h', _⟩
    · rw [if_pos (by simpa using h), idx_neg h]
    · rw [if_neg (by simpa using h), idx_in h h', obs]
  by_cases ht : name = thisT ∧ b = true
  · rw [if_pos ht, ht.1, ht.2]; rfl
  · rw [if_neg ht, ← hrest]
    cases b with
    | false => rfl
    | true =>
      have : (name == [116, 104, 105, 115]) = false := by
        rw [Bool.eq_false_iff]; intro h; exact ht ⟨by simpa [thisT] using h, rfl⟩
      simp only [if_true, this, obs, Bool.false_eq_true, if_false]

theorem ref39_bit_eq (b : Bool) : ref39_bit b = some (bitS b) := by cases b <;> rfl
theorem andI_bit (x y : Bool) : andI .i64 (bitS x) (bitS y) = bitS (x && y) := by cases x <;> cases y <;> decide +kernel
theorem ref39_sign_eq {k : Int} (h : 6 ≤ k ∧ k ≤ 14) (a b : Int) : ref39_sign k a b = some (sgnS k a b) := by
  unfold ref39_sign sgnS
  simp only [ref39_bit_eq, obs, andI_bit]
  have hk : k = 6 ∨ k = 7 ∨ k = 8 ∨ k = 9 ∨ k = 10 ∨ k = 11 ∨ k = 12 ∨ k = 13 ∨ k = 14 := by omega
  by_cases ha : (a != 0) = true
  · rw [if_pos ha, obs, ha, Bool.true_and]
    rcases hk with rfl | rfl | rfl | rfl | rfl | rfl | rfl | rfl | rfl <;> rfl
  · rw [if_neg ha, obs, Bool.eq_false_iff.2 ha, Bool.false_and]
    rcases hk with rfl | rfl | rfl | rfl | rfl | rfl | rfl | rfl | rfl <;> rfl
def fillA : A2 Int → Nat → List Int → A2 Int
  | x, _, [] => x
  | x, k, v :: l => fillA (A2.set x k v) (k + 1) l
def badG : GGot_ref39 := { fV := zGVal, fLeft := [], fEnd := 10 }
theorem refOf_L {gt : List UInt8 → Option GVal} {th : Int} {p : List GClass} {f : GFrame} {e : GExpr} (he : e.fKids.length ≤ 2) {rec : List GClass → GFrame → List Int → GExpr → Option GGot_ref39}
    (hr : ∀ y ∈ e.fKids, ∀ inp, rec p f inp y = some (match evS gt th y inp with | some (v, i) => ({ fV := v, fLeft := i, fEnd := 0 } : GGot_ref39) | none => badG)) :
    ∀ (n k : Nat) (inp : List Int) (x : A2 Int), n + k = e.fKids.length + 1 → k ≤ e.fKids.length →
      ref39_of_L1 p f e rec n inp x (k : Int) = some (match evL gt th (decide (e.fKind = 13) || decide (e.fKind = 14)) (e.fKids.drop k) inp with | some r => .next (r.2, fillA x k r.1) | none => .stop badG)
  | 0, k, inp, x, h, hk => by omega
  | n + 1, k, inp, x, h, hk => by
    rw [ref39_of_L1]
    by_cases hlt : k < e.fKids.length
    · rw [if_pos (by simpa using hlt), idx_lt hlt, obs, List.drop_eq_getElem_cons hlt, evL, hr _ (List.getElem_mem hlt), obs]
      cases hv : evS gt th e.fKids[k] inp with
      | none => simp [badG, obs, ref39_bad]
      | some vi =>
        obtain ⟨v, i⟩ := vi
        have hx : (if (({ fV := v, fLeft := i, fEnd := 0 } : GGot_ref39).fEnd != 0) = true then some true else if (e.fKind == 13) = true then some (!(v.fRef == true)) else some (!(v.fRef == (e.fKind == 14))) : Option Bool) = some (!(v.fRef == (decide (e.fKind = 13) || decide (e.fKind = 14)))) := by
          by_cases h13 : e.fKind = 13
          · simp [h13]
          · by_cases h14 : e.fKind = 14 <;> cases v.fRef <;> simp [h13, h14]
        simp only [hx, obs]
        by_cases hq : v.fRef = (decide (e.fKind = 13) || decide (e.fKind = 14))
        · have hidx : ∃ z, idx x.l (k : Int) = some z := by
            have hk2 : k < 2 := by omega
            have : k < x.l.length := hk2
            exact ⟨_, idx_lt this⟩
          obtain ⟨z, hz⟩ := hidx
          rw [if_pos hq, if_neg (by simp [hq]), hz, obs, w64_succ hlt (by omega), refOf_L he hr n (k + 1) i _ (by omega) (by omega)]
          rw [show ((k : Int)).toNat = k by omega]
          cases evL gt th (decide (e.fKind = 13) || decide (e.fKind = 14)) (e.fKids.drop (k + 1)) i with
          | none => rfl
          | some r => rfl
        · rw [if_neg hq, if_pos (by simpa using hq)]; rfl
    · rw [if_neg (by simpa using hlt), List.drop_eq_nil_of_le (by omega), evL]; rfl
theorem kinds_fS {e : GExpr} (hS : fS e = true) (hpos : 0 < e.fKids.length) : 6 ≤ e.fKind ∧ e.fKind ≤ 14 ∧ ((e.fKind = 12 ∨ e.fKind = 13) ↔ e.fKids.length = 1) := by
  have hh := hS
  rw [fS_eq, plnS, headS] at hh
  simp only [Bool.and_eq_true, decide_eq_true_eq] at hh
  have hk' := hh.1.1.1
  unfold kidsS at hk'
  split at hk'
  · omega
  · split at hk'
    · omega
    · split at hk' <;> omega
theorem sgn_fill {k : Int} {ns : List Int} (h1 : 0 < ns.length) (h2 : ns.length ≤ 2) (hk : ns.length = 1 → k = 12 ∨ k = 13) : sgnS k (fillA ⟨0, 0⟩ 0 ns).a0 (fillA ⟨0, 0⟩ 0 ns).a1 = sgnS k (ns.headD 0) (ns.getLastD 0) := by
  match ns, h1, h2, hk with
  | [], h, _, _ => simp at h
  | [a], _, _, hk =>
    show sgnS k a 0 = sgnS k a a
    unfold sgnS
    rcases hk rfl with hu | hu <;> subst hu <;> first | done | simp
  | [a, b], _, _, _ => rfl
  | _ :: _ :: _ :: _, _, h, _ => simp at h
theorem refOf_eq {gt : List UInt8 → Option GVal} {p : List GClass} {f : GFrame} (hg : ∀ nm, ∃ v0, ref38_Get p f nm = some (match gt nm with | some v => (v, true) | none => (v0, false))) :
    ∀ (n : Nat) (e : GExpr), mGExpr e < n → fS e = true → ∀ inp : List Int, ref39_of n p f inp e = some (match evS gt f.fThis e inp with | some (v, i) => ({ fV := v, fLeft := i, fEnd := 0 } : GGot_ref39) | none => badG)
  | n + 1, e, hn, hS, inp => by
    have hk := kids_len e
    rw [evS_eq, ref39_of]
    by_cases k1 : e.fKind = 1
    · simp [k1]
    by_cases k2 : e.fKind = 2
    · obtain ⟨v0, hv⟩ := hg e.fName
      rw [hv]
      cases hgt : gt e.fName with
      | none => simp [k2, ref39_bad, badG]
      | some v => simp [k2]
    by_cases k3 : e.fKind = 3
    · simp [k3]
    by_cases k4 : e.fKind = 4
    · simp [k4]
    have e1 : (e.fKind == 1) = false := by simpa using k1
    have e2 : (e.fKind == 2) = false := by simpa using k2
    have e3 : (e.fKind == 3) = false := by simpa using k3
    have e4 : (e.fKind == 4) = false := by simpa using k4
    by_cases k5 : e.fKind = 5
    · cases inp with
      | nil => simp [k5, zGVal]
      | cons x l =>
        simp [k5, idx, cutL]
        rw [if_neg (by omega), if_pos (by omega), obs]
    have e5 : (e.fKind == 5) = false := by simpa using k5
    obtain ⟨hpos, hle⟩ := kids_pos hS k1 k2 k3 k4 k5
    simp only [k1, k2, k3, k4, k5, e1, e2, e3, e4, e5, if_false, Bool.false_eq_true, obs]
    have hl := refOf_L (gt := gt) (th := f.fThis) (p := p) (f := f) (e := e) hle (rec := ref39_of n) (fun y hy inp => refOf_eq hg n y (by have := kid_lt hy; omega) (kid_fS hS hy) inp) ((((e.fKids.length : Int) : Int) - (0)).toNat + 1) 0 inp ⟨0, 0⟩ (by omega) (by omega)
    rw [List.drop_zero, show ((0 : Nat) : Int) = 0 from rfl] at hl
    rw [hl, obs]
    cases hL : evL gt f.fThis (decide (e.fKind = 13) || decide (e.fKind = 14)) e.fKids inp with
    | none => rfl
    | some r =>
      obtain ⟨ns, i⟩ := r
      have hlen := evL_len hL
      have hlen : ns.length = e.fKids.length := hlen
      have hkd := kinds_fS hS hpos
      have hsg := sgn_fill (k := e.fKind) (ns := ns) (by omega) (by omega) (fun h => hkd.2.2.2 (by omega))
      simp only [Ctl.elim, ref39_sign_eq ⟨hkd.1, hkd.2.1⟩, obs, hsg, Option.map_some]
theorem ref39_Of_eq {gt : List UInt8 → Option GVal} {p : List GClass} {f : GFrame} (hg : ∀ nm, ∃ v0, ref38_Get p f nm = some (match gt nm with | some v => (v, true) | none => (v0, false))) {e : GExpr} (he : mGExpr e ≤ 1000000) (inp : List Int) : ref39_Of p f inp e = some ({ fV := (ofS gt f.fThis e inp).1, fLeft := (ofS gt f.fThis e inp).2.1, fEnd := (ofS gt f.fThis e inp).2.2 } : GGot_ref39) := by
  unfold ref39_Of ofS
  rw [ref06_Right_eq he, obs]
  cases hR : rightS e with
  | false => rfl
  | true =>
    have hS : fS e = true := by unfold rightS at hR; rw [Bool.and_eq_true] at hR; exact hR.2
    rw [refOf_eq hg _ e (by omega) hS]
    cases evS gt f.fThis e inp with
    | none => rfl
    | some r => rfl

theorem get_both {p : List GClass} {f : GFrame} (hp : p.length ≤ 1000000) (hu : lsum uGClass p ≤ 1048576) (hg : ∀ c ∈ p, goodGClass c) : ∃ gt : List UInt8 → Option GVal, (∀ nm, ∃ v0, frame_Get p f nm = some (match gt nm with | some v => (v, true) | none => (v0, false))) ∧ (∀ nm, ∃ v0, ref38_Get p f nm = some (match gt nm with | some v => (v, true) | none => (v0, false))) := by
  obtain ⟨c, m, b, hM, h1, h2⟩ := method_tot hp hg f
  have hM' : ref38_Method p f = some (c, m, b) := by rw [ref38_Method_eq hp hu]; exact hM
  obtain ⟨s1, s2⟩ := method_small hp hu hM'
  refine ⟨gtS m b f, fun nm => ⟨(getS m b f nm).1, ?_⟩, fun nm => ⟨(getS m b f nm).1, ?_⟩⟩
  · rw [frame_Get_eq hM h1 h2]
    unfold gtS
    generalize getS m b f nm = q
    obtain ⟨v, t⟩ := q
    cases t <;> rfl
  · rw [ref38_Get_eq hM' s1 s2]
    unfold gtS
    generalize getS m b f nm = q
    obtain ⟨v, t⟩ := q
    cases t <;> rfl
def allS (gt : List UInt8 → Option GVal) (th : Int) : List GExpr → List Int → Option (List GVal × List Int)
  | [], inp => some ([], inp)
  | e :: l, inp => if rightS e = true then (match evS gt th e inp with | none => none | some (v, i) => (allS gt th l i).map fun r => (v :: r.1, r.2)) else none
theorem allS_len {gt : List UInt8 → Option GVal} {th : Int} : ∀ {l : List GExpr} {inp : List Int} {r : List GVal × List Int}, allS gt th l inp = some r → r.1.length = l.length ∧ r.2.length ≤ inp.length
  | [], inp, r, h => by simp only [allS] at h; cases h; simp
  | e :: l, inp, r, h => by
    simp only [allS] at h
    cases hR : rightS e with
    | false => rw [hR] at h; simp at h
    | true =>
      have hS : fS e = true := by unfold rightS at hR; rw [Bool.and_eq_true] at hR; exact hR.2
      rw [hR, if_pos rfl] at h
      cases hv : evS gt th e inp with
      | none => rw [hv] at h; cases h
      | some q =>
        obtain ⟨v, i⟩ := q
        rw [hv] at h
        have hd := evS_drop (mGExpr e + 1) e (by omega) hS _ _ _ hv
        cases hr : allS gt th l i with
        | none => simp only [hr] at h; cases h
        | some r' =>
          simp only [hr] at h; cases h
          obtain ⟨a, b⟩ := allS_len hr
          refine ⟨by simp [a], ?_⟩
          have : i.length ≤ inp.length := by rw [hd, List.length_drop]; omega
          simp only; omega
theorem calcAll_L {gt : List UInt8 → Option GVal} {p : List GClass} {f : GFrame} (hg : ∀ nm, ∃ v0, frame_Get p f nm = some (match gt nm with | some v => (v, true) | none => (v0, false))) {l : List GExpr} (hl : l.length ≤ 1000) (hm : ∀ e ∈ l, mGExpr e ≤ 1000000) :
    ∀ (n k : Nat) (inp : List Int) (out : List GVal), n + k = l.length + 1 → k ≤ l.length → out.length = k →
      calc_All_L1 l n { fp := p, ff := f, fin := inp, fbad := false } out (k : Int) = some (match allS gt f.fThis (l.drop k) inp with | some r => .next ({ fp := p, ff := f, fin := r.2, fbad := false }, out ++ r.1) | none => .stop ([], [], 10))
  | 0, k, inp, out, h, hk, _ => by omega
  | n + 1, k, inp, out, h, hk, ho => by
    rw [calc_All_L1]
    by_cases hlt : k < l.length
    · have he := hm _ (List.getElem_mem hlt)
      rw [if_pos (by simpa using hlt), idx_lt hlt, obs, expr_Right_eq he, obs, List.drop_eq_getElem_cons hlt, allS]
      cases hR : rightS l[k] with
      | false => rfl
      | true =>
        have hS : fS l[k] = true := by unfold rightS at hR; rw [Bool.and_eq_true] at hR; exact hR.2
        have h1 := ofW_eq hg (mGExpr l[k] + 1) l[k] ({ fp := p, ff := f, fin := inp, fbad := false } : Gcounter_calc) he (by omega) hS rfl rfl rfl
        unfold okW at h1
        rw [if_neg (by simp), if_pos rfl]
        cases hv : evS gt f.fThis l[k] inp with
        | none =>
          rw [hv] at h1
          obtain ⟨v, b', h2, h3⟩ := h1
          rw [h2, obs, room_ok (by simp; omega), obs, if_pos h3]
        | some r =>
          obtain ⟨v, i⟩ := r
          rw [hv] at h1
          have h1 : __calc_counter__of_w (mGExpr l[k] + 1) l[k] ({ fp := p, ff := f, fin := inp, fbad := false } : Gcounter_calc) = some (v, { fp := p, ff := f, fin := i, fbad := false }) := h1
          rw [h1, obs, room_ok (by simp; omega), obs, if_neg (by simp), w64_succ hlt (by omega), calcAll_L hg hl hm n (k + 1) i (out ++ [v]) (by omega) (by omega) (by simp; omega)]
          cases hr : allS gt f.fThis (l.drop (k + 1)) i with
          | none => simp only [hr, Option.map_none]
          | some r' => simp only [hr, Option.map_some, List.append_assoc, List.singleton_append]
    · rw [if_neg (by simpa using hlt), List.drop_eq_nil_of_le (by omega), allS]; simp
theorem calc_All_eq {gt : List UInt8 → Option GVal} {p : List GClass} {f : GFrame} (hg : ∀ nm, ∃ v0, frame_Get p f nm = some (match gt nm with | some v => (v, true) | none => (v0, false))) {l : List GExpr} (hl : l.length ≤ 1000) (hm : ∀ e ∈ l, mGExpr e ≤ 1000000) {inp : List Int} (hi : inp.length ≤ 100000) :
    calc_All p f inp l = some (match allS gt f.fThis l inp with | some r => (r.1, r.2, 0) | none => ([], [], 10)) := by
  unfold calc_All
  have h := calcAll_L hg hl hm ((((l.length : Int) : Int) - (0)).toNat + 1) 0 inp [] (by omega) (by omega) rfl
  rw [show ((0 : Nat) : Int) = 0 from rfl, List.drop_zero] at h
  rw [h, obs]
  cases hr : allS gt f.fThis l inp with
  | none => rfl
  | some r =>
    have := (allS_len hr).2
    simp only [Ctl.elim, slices_Clone_int]
    rw [room_ok (by simp; omega), obs, obs, List.nil_append]
theorem refAll_L {gt : List UInt8 → Option GVal} {p : List GClass} {f : GFrame} (hg : ∀ nm, ∃ v0, ref38_Get p f nm = some (match gt nm with | some v => (v, true) | none => (v0, false))) {l : List GExpr} (hl : l.length ≤ 1000) (hm : ∀ e ∈ l, mGExpr e ≤ 1000000) :
    ∀ (n k : Nat) (inp : List Int) (out : List GVal), n + k = l.length + 1 → k ≤ l.length → out.length = k →
      ref39_All_L1 p f l n inp out (k : Int) = some (match allS gt f.fThis (l.drop k) inp with | some r => .next (r.2, out ++ r.1) | none => .stop ([], [], 10))
  | 0, k, inp, out, h, hk, _ => by omega
  | n + 1, k, inp, out, h, hk, ho => by
    rw [ref39_All_L1]
    by_cases hlt : k < l.length
    · have he := hm _ (List.getElem_mem hlt)
      rw [if_pos (by simpa using hlt), idx_lt hlt, obs, ref39_Of_eq hg he, obs, List.drop_eq_getElem_cons hlt, allS]
      unfold ofS
      cases hR : rightS l[k] with
      | false => simp
      | true =>
        rw [if_pos rfl, if_pos rfl]
        cases hv : evS gt f.fThis l[k] inp with
        | none => simp
        | some r =>
          obtain ⟨v, i⟩ := r
          simp only [bne_self_eq_false, Bool.false_eq_true, if_false]
          rw [room_ok (by simp; omega), obs, w64_succ hlt (by omega), refAll_L hg hl hm n (k + 1) i (out ++ [v]) (by omega) (by omega) (by simp; omega)]
          cases hr : allS gt f.fThis (l.drop (k + 1)) i with
          | none => simp only [Option.map_none]
          | some r' => simp only [Option.map_some, List.append_assoc, List.singleton_append]
    · rw [if_neg (by simpa using hlt), List.drop_eq_nil_of_le (by omega), allS]; simp
theorem ref39_All_eq {gt : List UInt8 → Option GVal} {p : List GClass} {f : GFrame} (hg : ∀ nm, ∃ v0, ref38_Get p f nm = some (match gt nm with | some v => (v, true) | none => (v0, false))) {l : List GExpr} (hl : l.length ≤ 1000) (hm : ∀ e ∈ l, mGExpr e ≤ 1000000) (inp : List Int) :
    ref39_All p f inp l = some (match allS gt f.fThis l inp with | some r => (r.1, r.2, 0) | none => ([], [], 10)) := by
  unfold ref39_All
  have h := refAll_L hg hl hm ((((l.length : Int) : Int) - (0)).toNat + 1) 0 inp [] (by omega) (by omega) rfl
  rw [show ((0 : Nat) : Int) = 0 from rfl, List.drop_zero] at h
  rw [h, obs]
  cases allS gt f.fThis l inp with
  | none => rfl
  | some r => simp only [Ctl.elim, List.nil_append]
theorem greatAll_L {p : List GClass} (hg : listok (fun y => goodGClass y) p) {h : GHere_law39} {l : List GExpr} (hl : l.length ≤ 2000000) (hm : ∀ e ∈ l, mGExpr e ≤ 1000000) :
    ∀ (n k : Nat), n + k = l.length + 1 → k ≤ l.length → law39_CalcAll_L1 p h l n (k : Int) = some (.stop true) ∨ (law39_CalcAll_L1 p h l n (k : Int) = some (.next ()) ∧ (k < l.length → l.length ≤ 20))
  | 0, k, hn, hk => by omega
  | n + 1, k, hn, hk => by
    rw [law39_CalcAll_L1]
    by_cases hlt : k < l.length
    · rw [if_pos (by simpa using hlt)]
      by_cases h20 : (l.length : Int) > 20
      · rw [if_pos (by simpa using h20), obs, if_pos rfl, law39_awake_eq]; exact .inl rfl
      · obtain ⟨b, hb, _⟩ := great_eq hg (h := h) (hm _ (List.getElem_mem hlt))
        rw [if_neg (by simpa using h20), idx_lt hlt, obs, hb, obs, obs]
        cases b with
        | true => rw [if_pos rfl, law39_awake_eq]; exact .inl rfl
        | false =>
          rw [if_neg (by simp), w64_succ hlt (by omega)]
          rcases greatAll_L hg hl hm n (k + 1) (by omega) (by omega) with q | ⟨q, _⟩
          · exact .inl q
          · exact .inr ⟨q, fun _ => by omega⟩
    · rw [if_neg (by simpa using hlt)]
      exact .inr ⟨rfl, fun h => absurd h hlt⟩
theorem same_L {y z : List GVal × List Int × Int} (hyz : y = z) (hl : y.1.length ≤ 1000000) : ∀ (n k : Nat), n + k = y.1.length + 1 → k ≤ y.1.length → law39_CalcAll_L2 y z n (k : Int) = some (.next ())
  | 0, k, h, hk => by omega
  | n + 1, k, h, hk => by
    rw [law39_CalcAll_L2]
    by_cases hlt : k < y.1.length
    · rw [if_pos (by simpa using hlt), ← hyz, idx_lt hlt, obs, obs, bGVal_refl', if_neg (by simp), w64_succ hlt (by omega)]
      exact same_L rfl hl n (k + 1) (by omega) (by omega)
    · rw [if_neg (by simpa using hlt)]
theorem law39_CalcAll_true {a0 : List GClass} {a1 : GHere_law39} {a2 : List GExpr} (g0 : listok (fun y => goodGClass y) a0) (_ : goodGHere_law39 a1) (_ : listok (fun y => goodGExpr y) a2) (hb : lsum uGClass a0 + lsum uGExpr a2 ≤ 1048576) : law39_CalcAll a0 a1 a2 = some true := by
  have hm : ∀ e ∈ a2, mGExpr e ≤ 1000000 := fun e he => by
    have h1 := lsum_mem' (u := uGExpr) he
    have h2 := five_m _ e (Nat.le_refl _)
    omega
  have hlen := lsum_len' (u := uGExpr) (fun x => by rw [uGExpr_eq]; omega) a2
  unfold law39_CalcAll
  have hG := greatAll_L g0 (h := a1) (l := a2) (by omega) hm ((((a2.length : Int) : Int) - (0)).toNat + 1) 0 (by omega) (by omega)
  rw [show ((0 : Nat) : Int) = 0 from rfl] at hG
  rcases hG with hG | ⟨hG, hG2⟩
  · rw [hG]; rfl
  · rw [hG, obs, law39_awake_eq]
    simp only [Ctl.elim]
    obtain ⟨b, hgr, hgb⟩ := great_eq g0 (h := a1) (e := { fKind := 0, fNum := 0, fName := [], fKids := [] }) (by decide)
    simp only [hgr, obs]
    cases b with
    | true => rfl
    | false =>
      obtain ⟨l0, l1, l2⟩ := hgb rfl
      have h20 : a2.length ≤ 1000 := by
        by_cases h0 : 0 < a2.length
        · have := hG2 h0; omega
        · omega
      obtain ⟨gt, h1, h2⟩ := get_both (f := a1.fF) (show a0.length ≤ 1000000 by omega) (by omega) g0.2
      rw [if_neg (by simp), calc_All_eq h1 h20 hm (by omega), ref39_All_eq h2 h20 hm]
      cases hr : allS gt a1.fF.fThis a2 a1.fIn with
      | none =>
        have hs := same_L (y := ([], [], 10)) rfl (by simp) (1) 0 (by simp) (by simp)
        simp only [obs, ints_same (show ([] : List Int).length ≤ 1000000 by simp), bne_self_eq_false, Bool.false_eq_true, if_false, Bool.not_true]
        rw [show law39_CalcAll_L2 ([], [], 10) ([], [], 10) ((((([] : List GVal).length : Int)) - 0).toNat + 1) 0 = some (.next ()) from hs]
        rfl
      | some r =>
        obtain ⟨q1, q2⟩ := allS_len hr
        have hs := same_L (y := (r.1, r.2, 0)) rfl (show r.1.length ≤ 1000000 by omega) ((((r.1.length : Int)) - 0).toNat + 1) 0 (by simp only; omega) (by simp)
        simp only [obs, ints_same (show r.2.length ≤ 1000000 by omega), bne_self_eq_false, Bool.false_eq_true, if_false, Bool.not_true]
        rw [show law39_CalcAll_L2 (r.1, r.2, 0) (r.1, r.2, 0) ((((r.1.length : Int)) - 0).toNat + 1) 0 = some (.next ()) from hs]
        rfl


end Go.Proofs.YtnnphkfiookbnaaDoor
