/- A part of the proof that the law ShapeMore gives true for every input. -/
import Derived.Test.YtkmaieldmcjbfaaDoorShapeMoreA2
import Derived.Test.YtkmaieldmcjbfaaDoorShapeMoreA3
import Derived.Test.YtkmaieldmcjbfaaDoorShapeMoreT
import Derived.Test.YtkmaieldmcjbfaaDoorShapeMoreD
/- The plain law. -/
namespace Go.Proofs.YtkmaieldmcjbfaaDoor
open Go.RowKit Go.Abs
/-! ### Letters, digits, numbers. -/
theorem fuel_len' (m : Nat) : (((m : Int) : Int) - (0)).toNat + 1 = m + 1 := by omega
def isD (b : UInt8) : Bool := decide (48 ≤ b.toNat ∧ b.toNat ≤ 57)
theorem digit_eq (b : UInt8) : word_Digit (b.toNat : Int) = some (isD b) ∧ ref02_Digit (b.toNat : Int) = some (isD b) := by
  have : ∀ k : Fin 256, word_Digit (k.val : Int) = some (decide (48 ≤ k.val ∧ k.val ≤ 57)) ∧ ref02_Digit (k.val : Int) = some (decide (48 ≤ k.val ∧ k.val ≤ 57)) := by decide +kernel
  exact this ⟨b.toNat, b.toNat_lt⟩
/-! ### The words of the language, and names. -/
def findS (s : List UInt8) : Int := match glob_0.findIdx? (fun y => y == s) with | some i => ((i : Nat) : Int) + 1 | none => 0
theorem findS_nn (s : List UInt8) : 0 ≤ findS s ∧ findS s ≤ 23 := by
  unfold findS
  split
  · rename_i i h
    have := (List.findIdx?_eq_some_iff_getElem.1 h).1
    have e : glob_0.length = 23 := rfl
    omega
  · omega
theorem word_Find_eq (s : List UInt8) : word_Find s = some (findS s) := by
  unfold word_Find word_is slices_IndexFunc_string
  rw [obs, findL (slices_IndexFunc_string_L1 glob_0 (fun z3 => word_is_1 z3 s)) (b := fun y => y == s) (by decide) (fun n x => by simp only [slices_IndexFunc_string_L1, word_is_1, obs]), obs, find_any, obs]
  have h := findS_nn s
  unfold findS at *
  cases hf : glob_0.findIdx? (fun y => y == s) with
  | none => rfl
  | some i => rw [hf] at h; simp only at h ⊢; rw [w64 (by omega) (by omega)]
/-! Names. -/
def isL (b : UInt8) : Bool := (word_Letter (b.toNat : Int)).getD false
theorem letter_some (a : Int) : word_Letter a = some ((word_Letter a).getD false) := by unfold word_Letter; split <;> rfl
theorem word_L (b : UInt8) : word_Letter (b.toNat : Int) = some (isL b) := letter_some _
def isC (b : UInt8) : Bool := isL b || isD b
def nameS (s : List UInt8) : Bool := match s with
  | [] => false
  | b :: t => decide (t.length < 20) && (isL b && ((b :: t).all isC && findS (b :: t) == 0))
theorem idx_bytes {s : List UInt8} {k : Nat} (h : k < s.length) : idx (bytesL s) (k : Int) = some (s[k].toNat : Int) := by
  have hb : k < (bytesL s).length := by simp [bytesL]; exact h
  rw [idx_lt hb]; simp [bytesL]
theorem wName_L {s : List UInt8} (hs : s.length ≤ 1000) : ∀ (n k : Nat), n + k = s.length + 1 → k ≤ s.length → word_Name_L1 s n (k : Int) = some (if (s.drop k).all isC = true then .next () else .stop false)
  | 0, k, h, hk => by omega
  | n + 1, k, h, hk => by
    have hb : (bytesL s).length = s.length := by simp [bytesL]
    simp only [word_Name_L1, hb]
    by_cases hlt : k < s.length
    · rw [if_pos (by simpa using hlt), idx_bytes hlt, obs, word_L, obs, (digit_eq s[k]).1, List.drop_eq_getElem_cons hlt, w64_succ hlt (by omega), wName_L hs n (k + 1) (by omega) (by omega)]
      simp only [List.all_cons, isC]
      rcases Bool.eq_false_or_eq_true (isL s[k]) with h1 | h1 <;> rcases Bool.eq_false_or_eq_true (isD s[k]) with h2 | h2 <;> simp [obs, h1, h2]
    · rw [if_neg (by simpa using hlt), List.drop_eq_nil_of_le (by omega)]; rfl
theorem word_Name_eq (s : List UInt8) : word_Name s = some (nameS s) := by
  unfold word_Name nameS
  match s with
  | [] => rfl
  | b :: t =>
    have hi : idx (b :: t) 0 = some b := rfl
    have hb : (bytesL (b :: t)).length = (b :: t).length := by simp [bytesL]
    by_cases h20 : t.length < 20
    · have e0 : ((b :: t) == ([] : List UInt8)) = false := rfl
      have e1 : decide (((b :: t).length : Int) > 20) = false := by simp; omega
      rw [e0, e1, hi, if_neg (by simp), if_neg (by simp), obs, word_L, obs, obs]
      cases hL : isL b with
      | false => simp [hL]
      | true =>
        rw [if_neg (by simp), room_ok (by simp; omega), obs, hb, fuel_len', show (0 : Int) = ((0 : Nat) : Int) from rfl, wName_L (by simp; omega) _ 0 (by omega) (by omega), obs, List.drop_zero]
        cases hA : (b :: t).all isC with
        | false => rw [if_neg (by simp)]; simp [Ctl.elim, hL, hA]
        | true => rw [if_pos rfl]; simp only [Ctl.elim, word_Find_eq, obs]; simp [h20, hL, hA]
    · have e0 : ((b :: t) == ([] : List UInt8)) = false := rfl
      have e1 : decide (((b :: t).length : Int) > 20) = true := by simp; omega
      rw [e0, e1]
      simp [h20]
/-! ### Expressions that may be. -/
theorem mG_eq (e : GExpr) : mGExpr e = 1 + mLGExpr e.fKids := by cases e; simp only [mGExpr]
theorem mL_mem : ∀ {l : List GExpr} {x : GExpr}, x ∈ l → mGExpr x ≤ mLGExpr l
  | y :: l, x, h => by
    simp only [mLGExpr]
    rcases List.mem_cons.1 h with rfl | h
    · omega
    · have := mL_mem h; omega
theorem mL_len : ∀ l : List GExpr, l.length ≤ mLGExpr l
  | [] => by simp
  | x :: l => by
    have := mL_len l
    have := mG_eq x
    simp only [mLGExpr, List.length_cons]; omega
theorem kid_lt {e x : GExpr} (h : x ∈ e.fKids) : mGExpr x < mGExpr e := by
  have := mL_mem h
  have := mG_eq e
  omega
theorem kids_len (e : GExpr) : e.fKids.length < mGExpr e := by
  have := mL_len e.fKids
  have := mG_eq e
  omega
theorem idx_mem {α : Type} {l : List α} {x : Int} {y : α} (h : idx l x = some y) : y ∈ l := by
  unfold idx at h
  split at h
  · exact List.mem_of_getElem? h
  · cases h
def kidsS (k : Int) : Int := if 1 ≤ k ∧ k ≤ 5 then 0 else if k = 12 ∨ k = 13 then 1 else if (6 ≤ k ∧ k ≤ 11) ∨ k = 14 then 2 else -1
theorem kinds {k : Int} (h : 1 ≤ k ∧ k ≤ 14) : k = 1 ∨ k = 2 ∨ k = 3 ∨ k = 4 ∨ k = 5 ∨ k = 6 ∨ k = 7 ∨ k = 8 ∨ k = 9 ∨ k = 10 ∨ k = 11 ∨ k = 12 ∨ k = 13 ∨ k = 14 := by omega
theorem expr_kids_eq (k : Int) : expr_kids k = some (kidsS k) := by
  by_cases h : 1 ≤ k ∧ k ≤ 14
  · rcases kinds h with rfl | rfl | rfl | rfl | rfl | rfl | rfl | rfl | rfl | rfl | rfl | rfl | rfl | rfl <;> rfl
  · have hn : ∀ j : Int, 1 ≤ j → j ≤ 14 → (k == j) = false := fun j h1 h2 => by simp; omega
    unfold expr_kids kidsS
    simp only [hn 1 (by omega) (by omega), hn 2 (by omega) (by omega), hn 3 (by omega) (by omega), hn 4 (by omega) (by omega), hn 5 (by omega) (by omega), hn 6 (by omega) (by omega), hn 7 (by omega) (by omega), hn 8 (by omega) (by omega), hn 9 (by omega) (by omega), hn 10 (by omega) (by omega), hn 11 (by omega) (by omega), hn 12 (by omega) (by omega), hn 13 (by omega) (by omega), hn 14 (by omega) (by omega), obs, Bool.false_eq_true, if_false]
    rw [if_neg (by omega), if_neg (by omega), if_neg (by omega)]
def kidOk (k : Int) (x : GExpr) : Bool := if k = 13 then decide (x.fKind = 2) || decide (x.fKind = 3) else if k = 14 then decide (x.fKind = 2) || (decide (x.fKind = 3) || decide (x.fKind = 4)) else true
/-- An expression may be, but for its kids' own make. -/
def headS (e : GExpr) : Bool := decide ((e.fKids.length : Int) = kidsS e.fKind) && ((decide (e.fKind = 1) || decide (e.fNum = 0)) && ((decide (e.fKind = 2) || e.fName == []) && ((!decide (e.fKind = 1) || (decide (e.fNum ≥ 0) && decide (e.fNum ≤ 999999999))) && (!decide (e.fKind = 2) || nameS e.fName))))
def plS (e : GExpr) : Bool := headS e && e.fKids.all (kidOk e.fKind)
theorem contains_eq' {l : List GExpr} (hl : l.length ≤ 1000000) {q : GExpr → Option Bool} {b : GExpr → Bool} (hq : ∀ y, q y = some (b y)) : slices_ContainsFunc_api_Expr l q = some (l.any b) := by
  unfold slices_ContainsFunc_api_Expr slices_IndexFunc_api_Expr
  rw [findL (slices_IndexFunc_api_Expr_L1 l q) (b := b) (by omega) (fun n x => by rw [slices_IndexFunc_api_Expr_L1]; simp only [hq, obs]), obs, find_any, obs, idx_any]
theorem plain_1 (x c : GExpr) : expr_plain_1 x c = some (if x.fKind = 2 then false else if x.fKind = 3 then false else if x.fKind = 4 then decide (c.fKind = 13) else true) := by
  unfold expr_plain_1
  by_cases h2 : x.fKind = 2
  · simp [h2]
  · by_cases h3 : x.fKind = 3
    · simp [h3]
    · by_cases h4 : x.fKind = 4
      · by_cases h5 : c.fKind = 13 <;> simp [h4, h5]
      · simp [h2, h3, h4]
theorem expr_plain_eq {e : GExpr} (hl : e.fKids.length ≤ 1000000) : expr_plain e = some (plS e) := by
  unfold expr_plain plS headS
  rw [expr_kids_eq, obs]
  by_cases h0 : (e.fKids.length : Int) = kidsS e.fKind
  · by_cases h1 : e.fKind = 1
    · have k1 : e.fKids.all (kidOk e.fKind) = true := by simp [kidOk, h1]
      rw [k1]
      by_cases hn : (e.fName == []) = true
      · by_cases g : e.fNum ≥ 0 <;> by_cases g' : e.fNum ≤ 999999999 <;> simp_all [obs] <;> (split <;> simp_all <;> omega)
      · simp_all [obs]
    · by_cases h2 : e.fKind = 2
      · have k1 : e.fKids.all (kidOk e.fKind) = true := by simp [kidOk, h2]
        rw [k1, word_Name_eq]
        by_cases hm : e.fNum = 0 <;> simp_all [obs]
      · by_cases hm : e.fNum = 0
        · by_cases hn : (e.fName == []) = true
          · have hn' : e.fName = [] := by simpa using hn
            by_cases h13 : e.fKind = 13
            · rw [contains_eq' hl (fun y => plain_1 y e)]
              simp only [h0, h13, hm, hn', obs]
              simp
              rw [Bool.eq_iff_iff]
              simp [kidOk]
            · by_cases h14 : e.fKind = 14
              · rw [contains_eq' hl (fun y => plain_1 y e)]
                simp only [h0, h14, hm, hn', obs]
                simp
                rw [Bool.eq_iff_iff]
                simp [kidOk]
              · have k1 : e.fKids.all (kidOk e.fKind) = true := by simp [kidOk, h13, h14]
                rw [k1]
                simp [h0, h1, h2, hm, hn', h13, h14, obs]
          · simp_all [obs]
        · simp_all [obs]
  · simp [h0, obs]
/-- Every part may be. -/
def fS (e : GExpr) : Bool := (preE e).all plS
mutual
def dE : GExpr → Nat
  | ⟨_, _, _, l⟩ => 1 + dEL l
def dEL : List GExpr → Nat
  | [] => 0
  | x :: l => max (dE x) (dEL l)
end
theorem dE_eq (e : GExpr) : dE e = 1 + dEL e.fKids := by cases e; simp only [dE]
theorem dEL_le : ∀ (l : List GExpr) (m : Nat), dEL l ≤ m ↔ ∀ x ∈ l, dE x ≤ m
  | [], m => by simp [dEL]
  | x :: l, m => by
    have := dEL_le l m
    simp only [dEL, List.mem_cons, forall_eq_or_imp, ← this]
    omega
theorem contains_eqm {l : List GExpr} (hl : l.length ≤ 1000000) {q : GExpr → Option Bool} {b : GExpr → Bool} (hq : ∀ y ∈ l, q y = some (b y)) : slices_ContainsFunc_api_Expr l q = some (l.any b) := by
  unfold slices_ContainsFunc_api_Expr slices_IndexFunc_api_Expr
  rw [findL (slices_IndexFunc_api_Expr_L1 l q) (b := b) (by omega) (fun n x => by
    rw [slices_IndexFunc_api_Expr_L1]
    cases h : idx l x with
    | none => rfl
    | some y => simp only [hq y (idx_mem h), obs]), obs, find_any, obs, idx_any]
theorem expr_deep_eq : ∀ (m n : Nat) (e : GExpr), 2 * m + 2 ≤ n → m ≤ 1000 → mGExpr e ≤ 1000000 → expr_deep n e (m : Int) = some (decide (dE e ≤ m))
  | 0, n + 1, e, _, _, _ => by
    have := dE_eq e
    rw [expr_deep, if_pos (by simp)]
    simp; omega
  | m + 1, n + 2, e, hn, hm, he => by
    have hk := kids_len e
    rw [expr_deep, if_neg (by simp; omega), contains_eqm (b := fun y => !decide (dE y ≤ m)) (by omega) (fun y hy => by
      have := kid_lt hy
      rw [expr_deep_1, show w_i64 (((m + 1 : Nat) : Int) - 1) = (m : Int) by rw [w64 (by omega) (by omega)]; omega, expr_deep_eq m n y (by omega) (by omega) (by omega), obs]), obs]
    congr 1
    rw [Bool.eq_iff_iff]
    have h1 := dEL_le e.fKids m
    have h2 := dE_eq e
    simp
    rw [h2]
    constructor
    · intro h
      have := h1.2 h
      omega
    · intro h
      exact h1.1 (by omega)
theorem runs_right : ∀ l : List GExpr, (∀ x ∈ l, x.fKids.length ≤ 1000000) → runs expr_Right_B1 l () = some (if l.all plS = true then .next () else .stop ())
  | [], _ => rfl
  | x :: l, h => by
    by_cases hp : plS x = true
    · have hx : (x :: l).all plS = l.all plS := by rw [List.all_cons, hp, Bool.true_and]
      simp only [runs, expr_Right_B1, expr_plain_eq (h x (by simp)), obs, hx, hp, Bool.not_true, Bool.false_eq_true, if_false, Ctl.elim]
      exact runs_right l (fun y hy => h y (by simp [hy]))
    · have hx : (x :: l).all plS = false := by rw [List.all_cons, Bool.eq_false_iff.2 hp, Bool.false_and]
      simp only [runs, expr_Right_B1, expr_plain_eq (h x (by simp)), obs, hx, Bool.eq_false_iff.2 hp, Bool.not_false, if_true, Ctl.elim, Bool.false_eq_true, if_false]
mutual
theorem pre_len : ∀ e : GExpr, ∀ x ∈ preE e, x.fKids.length < mGExpr e
  | ⟨k, n, nm, l⟩, x, hx => by
    simp only [preE, List.mem_cons] at hx
    have h1 := mL_len l
    rcases hx with rfl | hx
    · simp only [mGExpr]; omega
    · have := preL_len l x hx
      simp only [mGExpr]; omega
theorem preL_len : ∀ l : List GExpr, ∀ x ∈ preEL l, x.fKids.length < mLGExpr l
  | [], x, hx => by simp [preEL] at hx
  | y :: l, x, hx => by
    simp only [preEL, List.mem_append] at hx
    simp only [mLGExpr]
    rcases hx with hx | hx
    · have := pre_len y x hx; omega
    · have := preL_len l x hx; omega
end
def rightS (e : GExpr) : Bool := decide (dE e ≤ 20) && fS e
theorem expr_Right_eq {e : GExpr} (he : mGExpr e ≤ 1000000) : expr_Right e = some (rightS e) := by
  unfold expr_Right rightS expr_all
  rw [show (20 : Int) = ((20 : Nat) : Int) from rfl, expr_deep_eq 20 _ e (by decide) (by omega) he, obs]
  by_cases hd : dE e ≤ 20
  · rw [decide_eq_true hd, if_neg (by simp), obs]
    unfold itR_all
    rw [if_pos he, obs, runs_right _ (fun x hx => by have := pre_len e x hx; omega), obs]
    unfold fS
    by_cases ha : (preE e).all plS = true
    · rw [if_pos ha, ha]; rfl
    · rw [if_neg ha, Bool.eq_false_iff.2 ha]; rfl
  · rw [decide_eq_false hd, if_pos (by simp)]; simp

theorem size_L {e : GExpr} (he : e.fKids.length ≤ 1000000) {rec : GExpr → Option Int} (hr : ∀ y ∈ e.fKids, ∃ s : Nat, rec y = some (s : Int) ∧ 1 ≤ s ∧ s ≤ mGExpr y ∧ (s < 1000 → s = mGExpr y)) :
    ∀ (n k a : Nat), n + k = e.fKids.length + 1 → k ≤ e.fKids.length → a + mLGExpr (e.fKids.drop k) ≤ 2000000 → ∃ s : Nat, ref06_Size_L1 e rec n (a : Int) (k : Int) = some (s : Int) ∧ a ≤ s ∧ s ≤ a + mLGExpr (e.fKids.drop k) ∧ (s < 1000 → s = a + mLGExpr (e.fKids.drop k))
  | 0, k, a, h, hk, _ => by omega
  | n + 1, k, a, h, hk, hb => by
    rw [ref06_Size_L1]
    by_cases hlt : k < e.fKids.length
    · rw [if_pos (by simpa using hlt), obs]
      rw [List.drop_eq_getElem_cons hlt, mLGExpr] at hb ⊢
      by_cases ha : a < 1000
      · obtain ⟨s, h1, h2, h3, h4⟩ := hr _ (List.getElem_mem hlt)
        obtain ⟨t, k1, k2, k3, k4⟩ := size_L he hr n (k + 1) (a + s) (by omega) (by omega) (by omega)
        rw [if_pos (by simp; omega), idx_lt hlt, obs, h1, obs, w64_succ hlt (by omega), w64 (by omega) (by omega), show (a : Int) + (s : Int) = ((a + s : Nat) : Int) by omega, k1]
        exact ⟨t, rfl, by omega, by omega, by omega⟩
      · rw [if_neg (by simp; omega)]
        exact ⟨a, rfl, by omega, by omega, by omega⟩
    · rw [if_neg (by simpa using hlt), obs, if_neg (by simp), List.drop_eq_nil_of_le (by omega), mLGExpr]
      exact ⟨a, rfl, by omega, by omega, by omega⟩
theorem ref06_Size_eq : ∀ (n : Nat) (e : GExpr), mGExpr e ≤ 1000000 → mGExpr e < n → ∃ s : Nat, ref06_Size n e = some (s : Int) ∧ 1 ≤ s ∧ s ≤ mGExpr e ∧ (s < 1000 → s = mGExpr e)
  | n + 1, e, he, hn => by
    have hk := kids_len e
    have h1 := mG_eq e
    obtain ⟨s, k1, k2, k3, k4⟩ := size_L (e := e) (by omega) (rec := ref06_Size n) (fun y hy => ref06_Size_eq n y (by have := kid_lt hy; omega) (by have := kid_lt hy; omega)) (e.fKids.length + 1) 0 1 (by omega) (by omega) (by rw [List.drop_zero]; omega)
    rw [List.drop_zero] at k3 k4
    exact ⟨s, by rw [ref06_Size, show (1 : Int) = ((1 : Nat) : Int) from rfl, show (0 : Int) = ((0 : Nat) : Int) from rfl, k1, obs], by omega, by omega, by omega⟩

def varsS (m : GMethod) : List GVar := m.fParams ++ m.fLocals
theorem arena_Vars_eq {m : GMethod} (h1 : m.fParams.length ≤ 100) (h2 : m.fLocals.length ≤ 100) : arena_Vars m = some (varsS m) := by
  unfold arena_Vars varsS slices_Concat_api_Var
  generalize m.fParams = p at *
  generalize m.fLocals = l at *
  have hL2 : ([p, l] : List (List GVar)).length = 2 := rfl
  have e1 : slices_Concat_api_Var_L1 [p, l] (((([p, l] : List (List GVar)).length : Int) - (0)).toNat + 1) 0 0 = some ((p.length : Int) + (l.length : Int)) := by
    have w1 : w_i64 (0 + (p.length : Int)) = (p.length : Int) := by rw [w64 (by omega) (by omega)]; omega
    have w2 : w_i64 ((p.length : Int) + (l.length : Int)) = (p.length : Int) + (l.length : Int) := w64 (by omega) (by omega)
    have i0 : idx [p, l] 0 = some p := rfl
    have i1 : idx [p, l] (w_i64 (0 + 1)) = some l := rfl
    have k2 : w_i64 (w_i64 (0 + 1) + 1) = 2 := rfl
    have k1 : w_i64 (0 + 1) = 1 := rfl
    have n0 : ¬ ((p.length : Int) < 0) := by omega
    have n1 : ¬ ((p.length : Int) + (l.length : Int) < 0) := by omega
    show slices_Concat_api_Var_L1 [p, l] (2 + 1) 0 0 = _
    simp only [slices_Concat_api_Var_L1, hL2]
    rw [if_pos (by decide), i0, obs, w1, if_neg (by simp), if_pos (by decide), i1, obs, w2, if_neg (by simpa using n1), if_neg (by decide)]
  have e2 : slices_Grow_api_Var ((p.length : Int) + (l.length : Int)) = some [] := by
    unfold slices_Grow_api_Var
    rw [if_neg (by simp; omega), show w_i64 (0 - 0) = 0 from rfl, Int.sub_zero, w64 (by omega) (by omega)]
    by_cases h0 : (p.length : Int) + (l.length : Int) > 0
    · have hz : zerOk ((p.length : Int) + (l.length : Int)) 120 = some () := by unfold zerOk; rw [if_pos ⟨by omega, by omega⟩]
      have hc : cutL (List.replicate ((p.length : Int) + (l.length : Int)).toNat zGVar) 0 0 = some [] := by
        unfold cutL
        rw [if_pos ⟨by omega, by omega, by simp; omega⟩]; simp
      rw [if_pos (by simpa using h0), hz, obs, hc, obs]
    · rw [if_neg (by simpa using h0)]
  have e3 : slices_Concat_api_Var_L2 [p, l] (((([p, l] : List (List GVar)).length : Int) - (0)).toNat + 1) [] 0 = some (p ++ l) := by
    have i0 : idx [p, l] 0 = some p := rfl
    have i1 : idx [p, l] (w_i64 (0 + 1)) = some l := rfl
    show slices_Concat_api_Var_L2 [p, l] (2 + 1) [] 0 = _
    simp only [slices_Concat_api_Var_L2, hL2]
    rw [if_pos (by decide), i0, obs, room_ok (by simp; omega), obs, if_pos (by decide), i1, obs, room_ok (by simp; omega), obs, if_neg (by decide)]
    simp
  rw [e1, obs, e2, obs, e3, obs, obs]
def isV (name : List UInt8) (v : GVar) : Bool := v.fName == name
def placeS (m : GMethod) (name : List UInt8) : Int := match (varsS m).findIdx? (isV name) with | some i => (i : Int) | none => -1
theorem idxV {l : List GVar} (hl : l.length ≤ 1000) (name : List UInt8) : slices_IndexFunc_api_Var l (fun (z4 : GVar) => scope_Place_1 z4 name) = some (match l.findIdx? (isV name) with | some i => (i : Int) | none => -1) := by
  unfold slices_IndexFunc_api_Var
  rw [findL (slices_IndexFunc_api_Var_L1 l (fun (z4 : GVar) => scope_Place_1 z4 name)) (b := isV name) (by omega) (fun n x => by rw [slices_IndexFunc_api_Var_L1]; rfl), obs]
  cases l.findIdx? (isV name) <;> rfl
theorem scope_Place_eq {m : GMethod} (h1 : m.fParams.length ≤ 100) (h2 : m.fLocals.length ≤ 100) (name : List UInt8) : scope_Place m name = some (placeS m name) := by
  unfold scope_Place placeS varsS
  rw [idxV (by omega), obs, idxV (by omega), List.findIdx?_append]
  cases hp : m.fParams.findIdx? (isV name) with
  | some i => simp
  | none =>
    cases hl : m.fLocals.findIdx? (isV name) with
    | none => simp
    | some j =>
      have := (List.findIdx?_eq_some_iff_getElem.1 hl).1
      have e1 : ¬ ((-1 : Int) ≥ 0) := by omega
      have e2 : ¬ ((j : Int) < 0) := by omega
      simp only [decide_eq_false e1, decide_eq_false e2, Bool.false_eq_true, if_false, obs]
      rw [w64 (by omega) (by omega)]
      simp; omega
theorem placeS_lt {m : GMethod} {name : List UInt8} (h : ¬ placeS m name < 0) : ∃ v, idx (varsS m) (placeS m name) = some v := by
  unfold placeS at *
  cases hf : (varsS m).findIdx? (isV name) with
  | none => rw [hf] at h; simp at h
  | some i =>
    have hlt := (List.findIdx?_eq_some_iff_getElem.1 hf).1
    exact ⟨_, idx_lt hlt⟩
theorem scope_Type_v {c : GClass} {m : GMethod} (h1 : m.fParams.length ≤ 100) (h2 : m.fLocals.length ≤ 100) {name : List UInt8} (hn : ¬ (name == [116, 104, 105, 115]) = true) (hp : ¬ placeS m name < 0) {v : GVar} (hv : idx (varsS m) (placeS m name) = some v) : scope_Type c m name = some (v.fType, true) := by
  unfold scope_Type
  rw [if_neg hn, scope_Place_eq h1 h2, arena_Vars_eq h1 h2, obs, if_neg (by simpa using hp), obs, hv, obs]
theorem place_more {m M : GMethod} {v : GVar} (hM : varsS M = varsS m ++ [v]) (name : List UInt8) :
    (placeS m name ≥ 0 → placeS M name = placeS m name) ∧ (placeS m name < 0 → v.fName = name → placeS M name = ((varsS m).length : Int)) ∧ (placeS m name < 0 → v.fName ≠ name → placeS M name = placeS m name) := by
  unfold placeS
  rw [hM, List.findIdx?_append]
  cases h : (varsS m).findIdx? (isV name) with
  | some i => refine ⟨fun _ => by simp, fun h => by simp at h; omega, fun h => by simp at h; omega⟩
  | none =>
    refine ⟨fun h => by simp at h, fun _ e => ?_, fun _ e => ?_⟩
    · simp [List.findIdx?_cons, isV, e]
    · simp [List.findIdx?_cons, isV, e]

def uniq (t : GType) : Bool := decide (t.fKind = 2) && decide (t.fOwn.a0.fKind = 6)
theorem kind_Unique_eq (t : GType) : kind_Unique t = some (uniq t) := by
  unfold kind_Unique uniq
  by_cases h : t.fKind = 2
  · rw [if_pos (by simpa using h)]; simp [h]; rfl
  · rw [if_neg (by simpa using h)]; simp [h]

/-! ### The type of an expression. -/
def zT : GType := { fKind := 0, fClass := [], fN := 0, fOwn := ⟨zGOwner, zGOwner, zGOwner, zGOwner⟩ }
def wantS (k : Int) (t : GType) : Bool := if k = 13 then decide (t.fKind = 2) else if k = 14 then decide (t.fKind = 2) || decide (t.fKind = 3) else decide (t.fKind = 1)
theorem shape_want_eq (k : Int) (t : GType) : shape_want k t = some (wantS k t) := by
  unfold shape_want wantS
  by_cases h : k = 13
  · simp [h]; rfl
  · by_cases h' : k = 14
    · by_cases a : t.fKind = 2 <;> simp [h', a]; rfl
    · simp [h, h']; rfl
theorem five_m : ∀ (n : Nat) (e : GExpr), mGExpr e ≤ n → 5 * mGExpr e ≤ uGExpr e
  | 0, e, h => by have := mG_eq e; omega
  | n + 1, e, h => by
    have h1 := mG_eq e
    have h2 := uGExpr_eq e
    have : ∀ l : List GExpr, (∀ x ∈ l, 5 * mGExpr x ≤ uGExpr x) → 5 * mLGExpr l ≤ lsum uGExpr l := by
      intro l
      induction l with
      | nil => intro _; simp [mLGExpr]
      | cons x l ih =>
        intro hx
        have a := hx x (by simp)
        have b := ih (fun y hy => hx y (by simp [hy]))
        simp only [mLGExpr, lsum]; omega
    have h3 := this e.fKids (fun x hx => five_m n x (by have := kid_lt hx; omega))
    omega
theorem law19_awake_eq : law19_awake = some true := by kernel_rfl
theorem bGType_refl (t : GType) : bGType t t = true := by simp [bGType]
def cA : GClass := { fName := [65], fParams := [], fSuper := [], fAbove := [], fFields := [], fMethods := [], fAt := 0 }
theorem scope_This_A : ∃ t, scope_This cA = some t := Option.isSome_iff_exists.1 (by decide +kernel)
theorem ofStep {e : GExpr} {clo : Clo0} {n u k : Nat} (hl : e.fKids.length ≤ 1000000) (hlt : k < e.fKids.length) (hu : u ≤ k) {t : GType} {f : Int} (h1 : clo.q e.fKids[k] = some (t, f)) :
    shape_Of_1_L1 e clo (n + 1) (u : Int) (k : Int) = if f ≠ 0 then some (.stop (zT, f)) else if wantS e.fKind t = false then some (.stop (zT, 14)) else shape_Of_1_L1 e clo n ((if uniq t then u + 1 else u : Nat) : Int) ((k + 1 : Nat) : Int) := by
  rw [shape_Of_1_L1, if_pos (by simpa using hlt), idx_lt hlt]
  simp only [obind, h1, obs]
  by_cases hf : f = 0
  · subst hf
    have hw := shape_want_eq e.fKind t
    have hz : ¬ ((0 : Int) ≠ 0) := fun h => h rfl
    rw [if_neg hz]
    cases hW : wantS e.fKind t with
    | false => simp [Ctl.go, obs, hw, hW, zT, obind]
    | true =>
      simp only [hw, hW, kind_Unique_eq, obs, obind, beq_self_eq_true, if_true, Bool.not_true, Bool.false_eq_true, if_false, bne_self_eq_false]
      cases uniq t with
      | true => simp only [if_true, Ctl.go]; rw [w64_succ hlt (by omega), w64 (by omega) (by omega)]; rfl
      | false => simp only [Bool.false_eq_true, if_false, Ctl.go]; rw [w64_succ hlt (by omega)]; simp
  · rw [if_pos hf]
    simp [Ctl.go, obs, hf, zT, obind]
theorem totL {e : GExpr} {clo : Clo0} (hl : e.fKids.length ≤ 1000000) (hr : ∀ y ∈ e.fKids, ∃ r, clo.q y = some r) : ∀ (n k u : Nat), n + k = e.fKids.length + 1 → k ≤ e.fKids.length → u ≤ k → (∃ f, shape_Of_1_L1 e clo n (u : Int) (k : Int) = some (.stop (zT, f))) ∨ (∃ u' : Nat, shape_Of_1_L1 e clo n (u : Int) (k : Int) = some (.next (u' : Int)))
  | 0, k, u, h, hk, _ => by omega
  | n + 1, k, u, h, hk, hu => by
    by_cases hlt : k < e.fKids.length
    · obtain ⟨⟨t, f⟩, h1⟩ := hr _ (List.getElem_mem hlt)
      rw [ofStep hl hlt hu h1]
      split
      · exact .inl ⟨f, rfl⟩
      · split
        · exact .inl ⟨14, rfl⟩
        · exact totL hl hr n (k + 1) _ (by omega) (by omega) (by split <;> omega)
    · rw [shape_Of_1_L1, if_neg (by simpa using hlt)]
      exact .inr ⟨u, rfl⟩
def relM (r r' : GType × Int) : Prop := (r.2 = 0 → r' = r) ∧ (r.2 ≠ 0 → r.1 = zT ∧ (r.2 = 13 ∨ r'.2 = r.2))
theorem moreL {e : GExpr} {clo clo' : Clo0} (hl : e.fKids.length ≤ 1000000) (hr : ∀ y ∈ e.fKids, ∃ r r', clo.q y = some r ∧ clo'.q y = some r' ∧ relM r r') : ∀ (n k u : Nat), n + k = e.fKids.length + 1 → k ≤ e.fKids.length → u ≤ k →
      (∃ u' : Nat, shape_Of_1_L1 e clo n (u : Int) (k : Int) = some (.next (u' : Int)) ∧ shape_Of_1_L1 e clo' n (u : Int) (k : Int) = some (.next (u' : Int))) ∨
      (∃ f, f ≠ 0 ∧ shape_Of_1_L1 e clo n (u : Int) (k : Int) = some (.stop (zT, f)) ∧ (f = 13 ∨ shape_Of_1_L1 e clo' n (u : Int) (k : Int) = some (.stop (zT, f))))
  | 0, k, u, h, hk, _ => by omega
  | n + 1, k, u, h, hk, hu => by
    by_cases hlt : k < e.fKids.length
    · obtain ⟨⟨t, f⟩, ⟨t', f'⟩, h1, h2, h3, h4⟩ := hr _ (List.getElem_mem hlt)
      rw [ofStep hl hlt hu h1, ofStep hl hlt hu h2]
      by_cases hf : f = 0
      · have := h3 hf
        cases this
        have hz : ¬ f ≠ 0 := fun h => h hf
        rw [if_neg hz, if_neg hz]
        cases hW : wantS e.fKind t with
        | false => exact .inr ⟨14, by decide, by simp, .inr (by simp)⟩
        | true => simpa using moreL hl hr n (k + 1) (if uniq t then u + 1 else u) (by omega) (by omega) (by split <;> omega)
      · obtain ⟨_, h5⟩ := h4 hf
        refine .inr ⟨f, hf, by rw [if_pos hf], ?_⟩
        rcases h5 with h5 | h5
        · exact .inl h5
        · have h5 : f' = f := h5
          subst h5
          exact .inr (by rw [if_pos hf])
    · rw [shape_Of_1_L1, if_neg (by simpa using hlt), shape_Of_1_L1, if_neg (by simpa using hlt)]
      exact .inl ⟨u, rfl, rfl⟩
theorem scope_Type_rel {m M : GMethod} {v : GVar} (hM : varsS M = varsS m ++ [v]) (h1 : m.fParams.length ≤ 100) (h2 : m.fLocals.length ≤ 100) (m1 : M.fParams.length ≤ 100) (m2 : M.fLocals.length ≤ 100) (name : List UInt8) :
    ∃ r r', scope_Type cA m name = some r ∧ scope_Type cA M name = some r' ∧ (r.2 = true → r' = r) := by
  by_cases hn : (name == [116, 104, 105, 115]) = true
  · obtain ⟨t, ht⟩ := scope_This_A
    unfold scope_Type
    rw [if_pos hn, if_pos hn, ht]
    exact ⟨_, _, rfl, rfl, fun _ => rfl⟩
  · have p := place_more hM name
    by_cases hp : placeS m name < 0
    · have e1 : scope_Type cA m name = some (zT, false) := by
        unfold scope_Type
        rw [if_neg hn, scope_Place_eq h1 h2, obs, if_pos (by simpa using hp)]; rfl
      by_cases hq : placeS M name < 0
      · have e2 : scope_Type cA M name = some (zT, false) := by
          unfold scope_Type
          rw [if_neg hn, scope_Place_eq m1 m2, obs, if_pos (by simpa using hq)]; rfl
        exact ⟨_, _, e1, e2, fun h => by cases h⟩
      · obtain ⟨w, hw⟩ := placeS_lt hq
        exact ⟨_, _, e1, scope_Type_v m1 m2 hn hq hw, fun h => by cases h⟩
    · obtain ⟨w, hw⟩ := placeS_lt hp
      have hq := p.1 (by omega)
      have hw' : idx (varsS M) (placeS M name) = some w := by
        rw [hq, hM]
        have h0 : 0 ≤ placeS m name := by omega
        unfold idx at hw ⊢
        rw [if_pos h0] at hw ⊢
        rw [List.getElem?_append_left (List.getElem?_eq_some_iff.1 hw).1]
        exact hw
      exact ⟨_, _, scope_Type_v h1 h2 hn hp hw, scope_Type_v m1 m2 hn (by rw [hq]; exact hp) hw', fun _ => rfl⟩
theorem shape_more {m M : GMethod} {v : GVar} (hM : varsS M = varsS m ++ [v]) (h1 : m.fParams.length ≤ 100) (h2 : m.fLocals.length ≤ 100) (m1 : M.fParams.length ≤ 100) (m2 : M.fLocals.length ≤ 100) :
    ∀ (n : Nat) (e : GExpr), mGExpr e ≤ 1000000 → mGExpr e < n → ∃ r r', (shape_Of_1_knot cA m n).q e = some r ∧ (shape_Of_1_knot cA M n).q e = some r' ∧ relM r r'
  | n + 1, e, he, hn => by
    have hk := kids_len e
    show ∃ r r', shape_Of_1 e cA m (shape_Of_1_knot cA m n) = some r ∧ shape_Of_1 e cA M (shape_Of_1_knot cA M n) = some r' ∧ _
    rw [shape_Of_1, shape_Of_1]
    by_cases k2 : e.fKind = 2
    · have q2 : (e.fKind == 2) = true := by simpa using k2
      obtain ⟨r, r', a, b, hrr⟩ := scope_Type_rel hM h1 h2 m1 m2 e.fName
      rw [if_pos q2, if_pos q2, a, b]
      simp only [obs]
      cases hr : r.2 with
      | true =>
        have := hrr hr
        subst this
        rw [hr]
        exact ⟨_, _, rfl, rfl, fun _ => rfl, fun h => absurd rfl h⟩
      | false =>
        cases hr' : r'.2 with
        | true => exact ⟨_, _, rfl, rfl, fun h => (by cases h), fun _ => ⟨rfl, .inl rfl⟩⟩
        | false => exact ⟨_, _, rfl, rfl, fun _ => rfl, fun _ => ⟨rfl, .inl rfl⟩⟩
    · have q2 : ¬ (e.fKind == 2) = true := by simpa using k2
      rw [if_neg q2, if_neg q2]
      by_cases k3 : e.fKind = 3
      · have q3 : (e.fKind == 3) = true := by simpa using k3
        obtain ⟨t, ht⟩ := scope_This_A
        rw [if_pos q3, if_pos q3, ht]
        exact ⟨_, _, rfl, rfl, fun _ => rfl, fun h => absurd rfl h⟩
      · have q3 : ¬ (e.fKind == 3) = true := by simpa using k3
        rw [if_neg q3, if_neg q3]
        by_cases k4 : e.fKind = 4
        · have q4 : (e.fKind == 4) = true := by simpa using k4
          rw [if_pos q4, if_pos q4]; exact ⟨_, _, rfl, rfl, fun _ => rfl, fun h => absurd rfl h⟩
        · have q4 : ¬ (e.fKind == 4) = true := by simpa using k4
          rw [if_neg q4, if_neg q4]
          have hr : ∀ y ∈ e.fKids, ∃ r r', (shape_Of_1_knot cA m n).q y = some r ∧ (shape_Of_1_knot cA M n).q y = some r' ∧ relM r r' := fun y hy => shape_more hM h1 h2 m1 m2 n y (by have := kid_lt hy; omega) (by have := kid_lt hy; omega)
          have hl := moreL (e := e) (by omega) hr ((((e.fKids.length : Int) : Int) - (0)).toNat + 1) 0 0 (by omega) (by omega) (by omega)
          have ht := totL (e := e) (clo := shape_Of_1_knot cA M n) (by omega) (fun y hy => by obtain ⟨_, r', _, b, _⟩ := hr y hy; exact ⟨r', b⟩) ((((e.fKids.length : Int) : Int) - (0)).toNat + 1) 0 0 (by omega) (by omega) (by omega)
          have c0 : ((0 : Nat) : Int) = 0 := rfl
          rw [c0] at hl ht
          rcases hl with ⟨u, a, b⟩ | ⟨f, hf, a, b⟩
          · rw [a, b]
            simp only [obs, Ctl.elim]
            by_cases hu : 0 < u
            · by_cases h14 : e.fKind = 14
              · simp [hu, h14, obs, relM, zT]
              · simp [hu, h14, obs, relM]
            · have : u = 0 := by omega
              subst this
              simp [obs, relM]
          · rw [a]
            simp only [obs, Ctl.elim]
            rcases b with b | b
            · subst b
              rcases ht with ⟨f', ht⟩ | ⟨u', ht⟩
              · rw [ht]; exact ⟨_, _, rfl, rfl, fun h => (by cases h), fun _ => ⟨rfl, .inl rfl⟩⟩
              · rw [ht]
                simp only [obs]
                by_cases hu : 0 < u'
                · by_cases h14 : e.fKind = 14
                  · simp [hu, h14, obs, relM, zT]
                  · simp [hu, h14, obs, relM, zT]
                · have : u' = 0 := by omega
                  subst this
                  simp [obs, relM, zT]
            · rw [b]
              exact ⟨_, _, rfl, rfl, fun h => absurd h hf, fun _ => ⟨rfl, .inr rfl⟩⟩
theorem shape_Of_more {m M : GMethod} {v : GVar} {e : GExpr} (hM : varsS M = varsS m ++ [v]) (h1 : m.fParams.length ≤ 100) (h2 : m.fLocals.length ≤ 100) (m1 : M.fParams.length ≤ 100) (m2 : M.fLocals.length ≤ 100) (he : mGExpr e ≤ 1000000) : ∃ r r', shape_Of cA m e = some r ∧ shape_Of cA M e = some r' ∧ relM r r' := by
  unfold shape_Of
  rw [expr_Right_eq he, obs, obs]
  cases rightS e with
  | false => exact ⟨_, _, rfl, rfl, fun _ => rfl, fun _ => ⟨rfl, .inr rfl⟩⟩
  | true =>
    obtain ⟨r, r', a, b, h⟩ := shape_more hM h1 h2 m1 m2 (mGExpr e + 1) e he (by omega)
    rw [a, b]
    exact ⟨r, r', rfl, rfl, h⟩
theorem law19_ShapeMore_true {a0 : GMethod} {a1 : GExpr} {a2 : GVar} (_ : goodGMethod a0) (_ : goodGExpr a1) (_ : goodGVar a2) (hb : uGExpr a1 ≤ 1048576) : law19_ShapeMore a0 a1 a2 = some true := by
  have he : mGExpr a1 ≤ 1000000 := by have := five_m _ a1 (Nat.le_refl _); omega
  unfold law19_ShapeMore
  rw [law19_awake_eq]
  by_cases h1 : a0.fParams.length > 60
  · simp [show (60 : Int) < (a0.fParams.length : Int) by omega, obs]
  by_cases h2 : a0.fLocals.length > 60
  · simp [show (60 : Int) < (a0.fLocals.length : Int) by omega, obs]
  obtain ⟨s, hs, _⟩ := ref06_Size_eq (mGExpr a1 + 1) a1 he (by omega)
  rw [if_neg (by simp; omega), if_neg (by simp; omega), hs, obs, obs]
  by_cases hg : (s : Int) > 200
  · rw [if_pos (by simpa using hg), obs]
  rw [if_neg (by simpa using hg), room_ok (by simp; omega), room_ok (by simp; omega)]
  generalize hM : ({ fName := a0.fName, fPure := a0.fPure, fRet := ({ fKind := a0.fRet.fKind, fClass := a0.fRet.fClass, fN := a0.fRet.fN, fOwn := (⟨({ fKind := a0.fRet.fOwn.a0.fKind, fN := a0.fRet.fOwn.a0.fN } : GOwner), ({ fKind := a0.fRet.fOwn.a1.fKind, fN := a0.fRet.fOwn.a1.fN } : GOwner), ({ fKind := a0.fRet.fOwn.a2.fKind, fN := a0.fRet.fOwn.a2.fN } : GOwner), ({ fKind := a0.fRet.fOwn.a3.fKind, fN := a0.fRet.fOwn.a3.fN } : GOwner)⟩ : A4 GOwner) } : GType), fParams := a0.fParams, fLocals := ((([] : List GVar) ++ a0.fLocals) ++ [a2]), fBody := a0.fBody, fAt := a0.fAt } : GMethod) = M
  have hMv : varsS M = varsS a0 ++ [a2] := by rw [← hM]; simp [varsS]
  have m1 : M.fParams.length ≤ 100 := by rw [← hM]; show a0.fParams.length ≤ 100; omega
  have m2 : M.fLocals.length ≤ 100 := by rw [← hM]; simp; omega
  obtain ⟨r, r', e1, e2, e3, e4⟩ := shape_Of_more (e := a1) hMv (by omega) (by omega) m1 m2 he
  unfold cA at e1 e2
  rw [e1, e2]
  simp only [obs]
  by_cases hr : r.2 = 0
  · have := e3 hr
    subst this
    simp [hr, bGType_refl]
  · obtain ⟨q1, q2⟩ := e4 hr
    have q0 : bGType r.1 { fKind := 0, fClass := [], fN := 0, fOwn := ⟨zGOwner, zGOwner, zGOwner, zGOwner⟩ } = true := by rw [q1]; exact bGType_refl _
    rw [if_pos (by simpa using hr), if_pos q0]
    rcases q2 with q2 | q2
    · rw [if_pos (by simpa using q2)]
    · by_cases q3 : r.2 = 13
      · rw [if_pos (by simpa using q3)]
      · rw [if_neg (by simpa using q3), if_pos (by simpa using q2)]


end Go.Proofs.YtkmaieldmcjbfaaDoor
