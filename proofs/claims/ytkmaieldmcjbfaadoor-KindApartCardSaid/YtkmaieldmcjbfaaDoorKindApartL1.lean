/- A part of the proof that the law KindApart gives true for every input. -/
import Derived.Test.YtkmaieldmcjbfaaDoorKindApartA2
import Derived.Test.YtkmaieldmcjbfaaDoorKindApartT
import Derived.Test.YtkmaieldmcjbfaaDoorKindApartA3
import Derived.Test.YtkmaieldmcjbfaaDoorKindApartD
/- The plain law. -/
namespace Go.Proofs.YtkmaieldmcjbfaaDoor
open Go.RowKit Go.Abs
/-! ### Letters, digits, numbers. -/
theorem fuel_len' (m : Nat) : (((m : Int) : Int) - (0)).toNat + 1 = m + 1 := by omega
theorem letter_eq (b : UInt8) : word_Letter (b.toNat : Int) = ref02_Letter (b.toNat : Int) := by
  have : ∀ k : Fin 256, word_Letter (k.val : Int) = ref02_Letter (k.val : Int) := by decide +kernel
  exact this ⟨b.toNat, b.toNat_lt⟩
def isD (b : UInt8) : Bool := decide (48 ≤ b.toNat ∧ b.toNat ≤ 57)
theorem digit_eq (b : UInt8) : word_Digit (b.toNat : Int) = some (isD b) ∧ ref02_Digit (b.toNat : Int) = some (isD b) := by
  have : ∀ k : Fin 256, word_Digit (k.val : Int) = some (decide (48 ≤ k.val ∧ k.val ≤ 57)) ∧ ref02_Digit (k.val : Int) = some (decide (48 ≤ k.val ∧ k.val ≤ 57)) := by decide +kernel
  exact this ⟨b.toNat, b.toNat_lt⟩
/-! ### The words of the language, and names. -/
def findS (s : List UInt8) : Int := match glob_0.findIdx? (fun y => y == s) with | some i => ((i : Nat) : Int) + 1 | none => 0
theorem findS_nn (s : List UInt8) : 0 ≤ findS s ∧ findS s ≤ 23 := by
  unfold findS
  split
  · rename_i i h
    have := (List.findIdx?_eq_some_iff_getElem.1 h).1
    have e : glob_0.length = 23 := rfl
    omega
  · omega
theorem word_Find_eq (s : List UInt8) : word_Find s = some (findS s) := by
  unfold word_Find word_is slices_IndexFunc_string
  rw [obs, findL (slices_IndexFunc_string_L1 glob_0 (fun z3 => word_is_1 z3 s)) (b := fun y => y == s) (by decide) (fun n x => by simp only [slices_IndexFunc_string_L1, word_is_1, obs]), obs, find_any, obs]
  have h := findS_nn s
  unfold findS at *
  cases hf : glob_0.findIdx? (fun y => y == s) with
  | none => rfl
  | some i => rw [hf] at h; simp only at h ⊢; rw [w64 (by omega) (by omega)]
theorem refFind_L {s : List UInt8} {l : List (List UInt8)} (hl : l.length ≤ 1000) : ∀ (n k : Nat), n + k = l.length + 1 → k ≤ l.length → ref02_Find_L1 s l n (k : Int) = some (match (l.drop k).findIdx? (fun y => y == s) with | some i => .stop (((k + i : Nat) : Int) + 1) | none => .next ())
  | 0, k, h, hk => by omega
  | n + 1, k, h, hk => by
    simp only [ref02_Find_L1]
    by_cases hlt : k < l.length
    · rw [if_pos (by simpa using hlt), idx_lt hlt, List.drop_eq_getElem_cons hlt, obs, List.findIdx?_cons, w64_succ hlt (by omega)]
      cases hb : l[k] == s with
      | true => simp
      | false =>
        rw [if_neg (by simp), refFind_L hl n (k + 1) (by omega) (by omega)]
        cases (l.drop (k + 1)).findIdx? (fun y => y == s) with
        | none => simp
        | some i => simp; omega
    · rw [if_neg (by simpa using hlt), List.drop_eq_nil_of_le (by omega)]
      rfl
theorem ref02_Find_eq (s : List UInt8) : ref02_Find s = some (findS s) := by
  unfold ref02_Find ref02_Words
  rw [obs]
  have h := refFind_L (s := s) (l := glob_0) (by decide) 24 0 (by decide) (by decide)
  have e : (show List (List UInt8) from glob_0).length = 23 := rfl
  show Option.bind (ref02_Find_L1 s glob_0 24 ((0 : Nat) : Int)) _ = _
  rw [h, obs, List.drop_zero]
  unfold findS
  cases glob_0.findIdx? (fun y => y == s) with
  | none => rfl
  | some i => simp [Ctl.elim]
/-! Names. -/
def isL (b : UInt8) : Bool := (word_Letter (b.toNat : Int)).getD false
theorem letter_some (a : Int) : word_Letter a = some ((word_Letter a).getD false) := by unfold word_Letter; split <;> rfl
theorem word_L (b : UInt8) : word_Letter (b.toNat : Int) = some (isL b) := letter_some _
theorem ref02_L (b : UInt8) : ref02_Letter (b.toNat : Int) = some (isL b) := by rw [← letter_eq]; exact word_L b
def isC (b : UInt8) : Bool := isL b || isD b
def nameS (s : List UInt8) : Bool := match s with
  | [] => false
  | b :: t => decide (t.length < 20) && (isL b && ((b :: t).all isC && findS (b :: t) == 0))
theorem idx_bytes {s : List UInt8} {k : Nat} (h : k < s.length) : idx (bytesL s) (k : Int) = some (s[k].toNat : Int) := by
  have hb : k < (bytesL s).length := by simp [bytesL]; exact h
  rw [idx_lt hb]; simp [bytesL]
theorem wName_L {s : List UInt8} (hs : s.length ≤ 1000) : ∀ (n k : Nat), n + k = s.length + 1 → k ≤ s.length → word_Name_L1 s n (k : Int) = some (if (s.drop k).all isC = true then .next () else .stop false)
  | 0, k, h, hk => by omega
  | n + 1, k, h, hk => by
    have hb : (bytesL s).length = s.length := by simp [bytesL]
    simp only [word_Name_L1, hb]
    by_cases hlt : k < s.length
    · rw [if_pos (by simpa using hlt), idx_bytes hlt, obs, word_L, obs, (digit_eq s[k]).1, List.drop_eq_getElem_cons hlt, w64_succ hlt (by omega), wName_L hs n (k + 1) (by omega) (by omega)]
      simp only [List.all_cons, isC]
      rcases Bool.eq_false_or_eq_true (isL s[k]) with h1 | h1 <;> rcases Bool.eq_false_or_eq_true (isD s[k]) with h2 | h2 <;> simp [obs, h1, h2]
    · rw [if_neg (by simpa using hlt), List.drop_eq_nil_of_le (by omega)]; rfl
theorem rName_L {s : List UInt8} (hs : s.length ≤ 1000) : ∀ (n k : Nat), n + k = s.length + 1 → k ≤ s.length → ref02_Name_L1 s n (k : Int) = some (if (s.drop k).all isC = true then .next () else .stop false)
  | 0, k, h, hk => by omega
  | n + 1, k, h, hk => by
    simp only [ref02_Name_L1]
    by_cases hlt : k < s.length
    · rw [if_pos (by simpa using hlt), idx_lt hlt, obs, ref02_L, obs, obs, (digit_eq s[k]).2, List.drop_eq_getElem_cons hlt, w64_succ hlt (by omega), rName_L hs n (k + 1) (by omega) (by omega)]
      simp only [List.all_cons, isC]
      rcases Bool.eq_false_or_eq_true (isL s[k]) with h1 | h1 <;> rcases Bool.eq_false_or_eq_true (isD s[k]) with h2 | h2 <;> simp [obs, h1, h2]
    · rw [if_neg (by simpa using hlt), List.drop_eq_nil_of_le (by omega)]; rfl
theorem word_Name_eq (s : List UInt8) : word_Name s = some (nameS s) := by
  unfold word_Name nameS
  match s with
  | [] => rfl
  | b :: t =>
    have hi : idx (b :: t) 0 = some b := rfl
    have hb : (bytesL (b :: t)).length = (b :: t).length := by simp [bytesL]
    by_cases h20 : t.length < 20
    · have e0 : ((b :: t) == ([] : List UInt8)) = false := rfl
      have e1 : decide (((b :: t).length : Int) > 20) = false := by simp; omega
      rw [e0, e1, hi, if_neg (by simp), if_neg (by simp), obs, word_L, obs, obs]
      cases hL : isL b with
      | false => simp [hL]
      | true =>
        rw [if_neg (by simp), room_ok (by simp; omega), obs, hb, fuel_len', show (0 : Int) = ((0 : Nat) : Int) from rfl, wName_L (by simp; omega) _ 0 (by omega) (by omega), obs, List.drop_zero]
        cases hA : (b :: t).all isC with
        | false => rw [if_neg (by simp)]; simp [Ctl.elim, hL, hA]
        | true => rw [if_pos rfl]; simp only [Ctl.elim, word_Find_eq, obs]; simp [h20, hL, hA]
    · have e0 : ((b :: t) == ([] : List UInt8)) = false := rfl
      have e1 : decide (((b :: t).length : Int) > 20) = true := by simp; omega
      rw [e0, e1]
      simp [h20]
theorem ref02_Name_eq (s : List UInt8) : ref02_Name s = some (nameS s) := by
  unfold ref02_Name nameS
  match s with
  | [] => rfl
  | b :: t =>
    have hi : idx (b :: t) 0 = some b := rfl
    have e0 : decide (((b :: t).length : Int) < 1) = false := by simp; omega
    by_cases h20 : t.length < 20
    · have e1 : decide (((b :: t).length : Int) > 20) = false := by simp; omega
      rw [e0, e1, hi, if_neg (by simp), if_neg (by simp), obs, ref02_L, obs, ref02_Find_eq, obs]
      have hn := findS_nn (b :: t)
      cases hL : isL b with
      | false => simp [hL]
      | true =>
        by_cases hf : findS (b :: t) = 0
        · rw [hf, if_neg (by simp), obs, if_neg (by simp), fuel_len', show (0 : Int) = ((0 : Nat) : Int) from rfl, rName_L (by simp; omega) _ 0 (by omega) (by omega), obs, List.drop_zero]
          cases hA : (b :: t).all isC with
          | false => rw [if_neg (by simp)]; simp [Ctl.elim, hL, hA]
          | true => rw [if_pos rfl]; simp [Ctl.elim, h20, hL, hA, hf]
        · rw [if_neg (by simp), obs, if_pos (by simp; omega)]
          simp [hf, hL]
    · have e1 : decide (((b :: t).length : Int) > 20) = true := by simp; omega
      rw [e0, e1]
      simp [h20]
/-! ### The owners of a type. -/
/-- How many owners stand behind the class. -/
def cnt3 (n : Int) : Nat := if n ≤ 0 then 0 else if 3 ≤ n then 3 else n.toNat
theorem cnt3_le (n : Int) : cnt3 n ≤ 3 := by unfold cnt3; split; omega; split; omega; omega
theorem cnt3_ite (n : Int) : (if (if 3 < n then 3 else n) > 0 then (if 3 < n then 3 else n) else 0) = ((cnt3 n : Nat) : Int) := by
  unfold cnt3
  by_cases h : n ≤ 0
  · rw [if_neg (show ¬ 3 < n by omega), if_neg (show ¬ n > 0 by omega), if_pos h]; rfl
  · by_cases h3 : 3 ≤ n
    · by_cases h4 : 3 < n
      · simp only [if_pos h4, if_neg h, if_pos h3]; omega
      · simp only [if_neg h4, if_neg h, if_pos h3]; rw [if_pos (by omega)]; omega
    · simp only [if_neg (show ¬ 3 < n by omega), if_neg h, if_neg h3]; rw [if_pos (by omega)]; omega
def own (t : GType) : List GOwner := if t.fKind = 2 then t.fOwn.l.take (cnt3 t.fN + 1) else []
theorem A4_len {α : Type} (x : A4 α) : x.l.length = 4 := rfl
theorem own_len {t : GType} (h : t.fKind = 2) : (own t).length = cnt3 t.fN + 1 := by
  unfold own; rw [if_pos h, List.length_take, A4_len]; have := cnt3_le t.fN; omega
theorem own_le (t : GType) : (own t).length ≤ 4 := by
  unfold own; split
  · rw [List.length_take, A4_len]; omega
  · simp
theorem kind_own_eq (t : GType) : kind_own t = some (t.fOwn.l.take (cnt3 t.fN + 1)) := by
  unfold kind_own
  have := cnt3_le t.fN
  rw [cnt3_ite, w64 (by omega) (by omega), show ((cnt3 t.fN : Nat) : Int) + 1 = ((cnt3 t.fN + 1 : Nat) : Int) by omega]
  unfold cutL
  rw [if_pos ⟨by omega, by omega, by rw [A4_len]; omega⟩]
  simp
theorem kind_Owners_eq (t : GType) : kind_Owners t = some (own t) := by
  unfold kind_Owners own
  by_cases h : t.fKind = 2
  · rw [if_neg (by simp [h]), if_pos h, kind_own_eq, obs]
    unfold slices_Clone_api_Owner
    rw [room_ok (by rw [List.length_take, A4_len]; simp; omega)]
    rfl
  · rw [if_pos (by simpa using h), if_neg h]

/-! ### Owners, put. -/
theorem bGOwner_eq (a b : GOwner) : bGOwner a b = decide (a = b) := by
  rw [Bool.eq_iff_iff]; cases a; cases b; simp [bGOwner]
/-! ### A type with other owners. -/
theorem foldO_some {α S : Type} (f : S → α → Option S) (g : S → α → S) (h : ∀ s y, f s y = some (g s y)) : ∀ (l : List α) (s : S), foldO f s l = some (l.foldl g s)
  | [], s => rfl
  | y :: l, s => by simp only [foldO, h, obs, List.foldl_cons]; exact foldO_some f g h l _
def holeStep (s : Int) (y : GOwner) : Int := if (y.fKind == 7) = true then w_i64 (s + 1) else s
def holesS (t : GType) : Int := (own t).foldl holeStep 0
theorem kind_Holes_eq (t : GType) : kind_Holes t = some (holesS t) := by
  unfold kind_Holes
  have hl := own_le t
  rw [kind_Owners_eq, obs, foldL (fun n s x => kind_Holes_L1 (own t) n s x) (by omega) (f := fun s y => some (holeStep s y)) (fin := fun s => some s) (fun n s x => by
    simp only [kind_Holes_L1, Option.bind_assoc]
    congr 1
    cases idx (own t) x with
    | none => rfl
    | some y => simp only [obs, holeStep]; split <;> simp only [obs]), foldO_some _ holeStep (fun _ _ => rfl), obs, obs]
  rfl
theorem A4_ext {α : Type} {x y : A4 α} (h : ∀ j : Nat, x.l[j]? = y.l[j]?) : x = y := by
  obtain ⟨a, b, c, d⟩ := x
  obtain ⟨a', b', c', d'⟩ := y
  have h0 := h 0; have h1 := h 1; have h2 := h 2; have h3 := h 3
  simp [A4.l] at h0 h1 h2 h3
  rw [h0, h1, h2, h3]
/-! ### Which owners and types may be. -/
def rightB (o : GOwner) (m : Int) : Bool := if o.fKind = 3 then decide (0 < o.fN) && decide (o.fN ≤ m) else if o.fKind = 7 then decide (0 ≤ o.fN) else decide (o.fN = 0) && (decide (o.fKind = 1) || (decide (o.fKind = 2) || (decide (o.fKind = 4) || (decide (o.fKind = 5) || decide (o.fKind = 6)))))
theorem owner_Right_eq (o : GOwner) (m : Int) : owner_Right o m = some (rightB o m) := by
  unfold owner_Right rightB
  by_cases h3 : o.fKind = 3
  · by_cases hn : o.fN > 0 <;> simp [h3, hn, Ctl.go]
  by_cases h7 : o.fKind = 7
  · simp [h7, Ctl.go]
  by_cases h1 : o.fKind = 1
  · simp [h1, Ctl.go]; rfl
  by_cases h2 : o.fKind = 2
  · simp [h2, Ctl.go]; rfl
  by_cases h4 : o.fKind = 4
  · simp [h4, Ctl.go, obind]; rfl
  by_cases h5 : o.fKind = 5
  · simp [h5, Ctl.go, obind]; rfl
  by_cases h6 : o.fKind = 6
  · simp [h6, Ctl.go, obind]; rfl
  simp [h3, h7, h1, h2, h4, h5, h6, Ctl.go, obind]
def plainT (t : GType) : GType := { fKind := t.fKind, fClass := [], fN := 0, fOwn := ⟨zGOwner, zGOwner, zGOwner, zGOwner⟩ }
def kindR (t : GType) (m : Int) : Bool := if t.fKind = 0 ∨ t.fKind = 1 then bGType t (plainT t) else if t.fKind = 2 then
  nameS t.fClass && (decide (0 ≤ t.fN) && (decide (t.fN ≤ 3) && ((own t).all (fun o => rightB o m) && (((own t).drop 1).all (fun o => !decide (o.fKind = 6)) && (t.fOwn.l.drop (own t).length).all (fun o => bGOwner o ⟨0, 0⟩))))) else false
theorem kR_L1 {l : List GOwner} (m : Int) (hl : l.length ≤ 1000) : kind_Right_L1 m l ((((l.length : Int) : Int) - (0)).toNat + 1) 0 = some (if l.all (fun o => rightB o m) = true then .next () else .stop false) := by
  rw [anyL (kind_Right_L1 m l) (by omega) (b := fun o => !rightB o m) (r := false) (fun n x => by
    simp only [kind_Right_L1, owner_Right_eq, obs])]
  rw [List.any_eq_not_all_not]
  simp only [Bool.not_not]
  cases l.all (fun o => rightB o m) <;> rfl
theorem kR_L2 {l : List GOwner} (hl : l.length ≤ 1000) : kind_Right_L2 l ((((l.length : Int) : Int) - (0)).toNat + 1) 0 = some (if l.all (fun o => !decide (o.fKind = 6)) = true then .next () else .stop false) := by
  rw [anyL (kind_Right_L2 l) (by omega) (b := fun o => decide (o.fKind = 6)) (r := false) (fun n x => by
    simp only [kind_Right_L2, beq_iff_eq, decide_eq_true_eq])]
  rw [List.any_eq_not_all_not]
  cases l.all (fun o => !decide (o.fKind = 6)) <;> rfl
theorem kR_L3 {l : List GOwner} (hl : l.length ≤ 1000) : kind_Right_L3 l ((((l.length : Int) : Int) - (0)).toNat + 1) 0 = some (if l.all (fun o => bGOwner o ⟨0, 0⟩) = true then .next () else .stop false) := by
  rw [anyL (kind_Right_L3 l) (by omega) (b := fun o => !bGOwner o ⟨0, 0⟩) (r := false) (fun n x => by
    simp only [kind_Right_L3])]
  rw [List.any_eq_not_all_not]
  simp only [Bool.not_not]
  cases l.all (fun o => bGOwner o ⟨0, 0⟩) <;> rfl
theorem cutL_drop {α : Type} {l : List α} {k : Nat} (h : k ≤ l.length) : cutL l (k : Int) (l.length : Int) = some (l.drop k) := by
  unfold cutL
  rw [if_pos ⟨by omega, by omega, by omega⟩]
  simp
theorem kind_Right_eq (t : GType) (m : Int) : kind_Right t m = some (kindR t m) := by
  unfold kind_Right kindR
  by_cases h0 : t.fKind = 0
  · simp [h0, plainT]
  by_cases h1 : t.fKind = 1
  · simp [h1, plainT]
  have e1 : (t.fKind == 0) = false := by simpa using h0
  have e2 : (t.fKind == 1) = false := by simpa using h1
  rw [if_neg (show ¬ (t.fKind = 0 ∨ t.fKind = 1) by simp [h0, h1])]
  simp only [e1, e2, Bool.false_eq_true, if_false, obs]
  by_cases h2 : t.fKind = 2
  · have e3 : (t.fKind == 2) = true := by simpa using h2
    rw [if_pos h2]
    simp only [e3, if_true, word_Name_eq, obs]
    cases hn : nameS t.fClass with
    | false => rfl
    | true =>
      by_cases hN : t.fN < 0
      · have e4 : decide (0 ≤ t.fN) = false := by simp; omega
        simp [hN, e4]
      by_cases hN3 : t.fN > 3
      · have e4 : decide (t.fN ≤ 3) = false := by simp; omega
        simp [hN, hN3, e4]
      have hle := own_le t
      have hol := own_len h2
      have hown : t.fOwn.l.take (cnt3 t.fN + 1) = own t := by unfold own; rw [if_pos h2]
      have e4 : decide (0 ≤ t.fN) = true := by simp; omega
      have e5 : decide (t.fN ≤ 3) = true := by simp; omega
      rw [e4, e5, decide_eq_false hN, decide_eq_false hN3, kind_own_eq, hown]
      simp only [Bool.not_true, Bool.false_eq_true, if_false, obs, kR_L1 m (show (own t).length ≤ 1000 by omega)]
      cases ha : (own t).all (fun o => rightB o m) with
      | false => rfl
      | true =>
        simp only [if_true, Ctl.elim]
        have c1 := cutL_drop (l := own t) (k := 1) (by omega)
        rw [show ((1 : Nat) : Int) = 1 from rfl] at c1
        rw [c1, obs, kR_L2 (by simp; omega), obs]
        cases hb : ((own t).drop 1).all (fun o => !decide (o.fKind = 6)) with
        | false => rfl
        | true =>
          simp only [if_true]
          have c2 := cutL_drop (l := t.fOwn.l) (k := (own t).length) (by rw [A4_len]; omega)
          rw [c2, obs, kR_L3 (by simp [A4_len]; omega), obs]
          cases (t.fOwn.l.drop (own t).length).all (fun o => bGOwner o ⟨0, 0⟩) <;> rfl
  · have e3 : (t.fKind == 2) = false := by simpa using h2
    rw [if_neg h2]
    simp only [e3, Bool.false_eq_true, if_false]
/-! ### The text of a type. -/
def wordO (k : Int) : List UInt8 := if k = 1 then [114, 101, 112] else if k = 2 then [112, 101, 101, 114] else if k = 4 then [119, 111, 114, 108, 100] else if k = 5 then [97, 110, 121] else if k = 6 then [117, 110, 105, 113, 117, 101] else [63]
def textO (o : GOwner) (ps : List (List UInt8)) : List UInt8 := if rightB o (ps.length : Int) = true then (if o.fKind = 3 then (ps[(o.fN - 1).toNat]?).getD [] else wordO o.fKind) else []
theorem rightB_cases {o : GOwner} {m : Int} (h : rightB o m = true) : (o.fKind = 3 ∧ 0 < o.fN ∧ o.fN ≤ m) ∨ (o.fKind = 7 ∧ 0 ≤ o.fN) ∨ (o.fN = 0 ∧ (o.fKind = 1 ∨ o.fKind = 2 ∨ o.fKind = 4 ∨ o.fKind = 5 ∨ o.fKind = 6)) := by
  unfold rightB at h
  split at h
  · rename_i h3; simp at h; exact .inl ⟨h3, h.1, h.2⟩
  · split at h
    · rename_i h7; simp at h; exact .inr (.inl ⟨h7, h⟩)
    · simp at h; exact .inr (.inr h)
theorem owner_Text_eq (o : GOwner) (ps : List (List UInt8)) (hp : ps.length ≤ 1000) : owner_Text o ps = some (textO o ps) := by
  unfold owner_Text textO
  rw [owner_Right_eq, obs]
  cases hr : rightB o (ps.length : Int) with
  | false => simp
  | true =>
    rcases rightB_cases hr with ⟨h3, h1, h2⟩ | ⟨h7, _⟩ | ⟨_, h1 | h1 | h1 | h1 | h1⟩
    · have e : w_i64 (o.fN - 1) = (((o.fN - 1).toNat : Nat) : Int) := by rw [w64 (by omega) (by omega)]; omega
      have hlt : (o.fN - 1).toNat < ps.length := by omega
      generalize (o.fN - 1).toNat = j at *
      simp only [h3, e, idx_lt hlt, obs, List.getElem?_eq_getElem hlt]
      simp
    · simp [h7, wordO]
    · simp [h1, wordO]
    · simp [h1, wordO]
    · simp [h1, wordO]
    · simp [h1, wordO]
    · simp [h1, wordO]
def tailT : List (List UInt8) → List UInt8
  | [] => []
  | x :: r => [60] ++ (x ++ ((r.map ([44, 32] ++ ·)).flatten ++ [62]))
def textK (t : GType) (ps : List (List UInt8)) : List UInt8 := if kindR t (ps.length : Int) = true then (if t.fKind = 0 then [118, 111, 105, 100] else if t.fKind = 1 then [105, 110, 116] else
  (if t.fOwn.a0.fKind = 7 then [] else textO t.fOwn.a0 ps ++ [32]) ++ (t.fClass ++ tailT (((own t).drop 1).map (textO · ps)))) else []
theorem room_t {n : Int} (h0 : 0 ≤ n) (h : n ≤ 100000000000) : room n 1 = some () := room_ok (by omega)
theorem kind_Text_L {ps : List (List UInt8)} (hp : ps.length ≤ 1000) {l : List GOwner} (hl : l.length ≤ 1000) : kind_Text_L1 ps l ((((l.length : Int) : Int) - (0)).toNat + 1) [] 0 = some (l.map (textO · ps)) := by
  rw [foldL (fun n s x => kind_Text_L1 ps l n s x) (by omega) (f := fun s y => Option.bind (room ((s.length : Int) + ([textO y ps].length : Int)) 16) fun _ => some (s ++ [textO y ps])) (fin := fun s => some s) (fun n s x => by
    simp only [kind_Text_L1]
    by_cases hc : decide (x < (l.length : Int)) = true
    · rw [if_pos hc, if_pos hc]
      cases idx l x with
      | none => simp only [Option.bind_none]
      | some y => simp only [obs, owner_Text_eq y ps hp, Option.bind_assoc]
    · rw [if_neg hc, if_neg hc])]
  rw [foldO_room _ (textO · ps) 1000 (fun s y hs => by rw [room_ok (by simp only [List.length_cons, List.length_nil]; omega), obs]) l [] (by simp; omega), obs]
  rfl
theorem kindR_2 {t : GType} {m : Int} (h : kindR t m = true) (h0 : t.fKind ≠ 0) (h1 : t.fKind ≠ 1) : t.fKind = 2 ∧ nameS t.fClass = true ∧ 0 ≤ t.fN ∧ t.fN ≤ 3 ∧ (∀ o ∈ own t, rightB o m = true) ∧ (∀ o ∈ (own t).drop 1, o.fKind ≠ 6) ∧ ∀ o ∈ t.fOwn.l.drop (own t).length, o = ⟨0, 0⟩ := by
  unfold kindR at h
  rw [if_neg (by simp [h0, h1])] at h
  split at h
  · rename_i h2
    simp only [Bool.and_eq_true, decide_eq_true_eq, List.all_eq_true, Bool.not_eq_true', decide_eq_false_iff_not] at h
    obtain ⟨a, b, c, d, e, f⟩ := h
    exact ⟨h2, a, b, c, d, e, fun o ho => by have := f o ho; rw [bGOwner_eq] at this; simpa using this⟩
  · cases h
theorem nameS_len {s : List UInt8} (h : nameS s = true) : s.length ≤ 20 := by
  unfold nameS at h
  match s with
  | [] => simp
  | b :: t => simp at h; simp; omega
theorem kind_Text_eq {t : GType} {ps : List (List UInt8)} (hp : ps.length ≤ 1000) (hM : ∀ o, (textO o ps).length ≤ 10000000000) : kind_Text t ps = some (textK t ps) := by
  unfold kind_Text textK
  rw [kind_Right_eq, obs]
  cases hr : kindR t (ps.length : Int) with
  | false => rfl
  | true =>
    by_cases h0 : t.fKind = 0
    · simp [h0]
    by_cases h1 : t.fKind = 1
    · simp [h1]
    obtain ⟨h2, hn, hN0, hN3, _⟩ := kindR_2 hr h0 h1
    have hcl := nameS_len hn
    have hown : t.fOwn.l.take (cnt3 t.fN + 1) = own t := by unfold own; rw [if_pos h2]
    have hle := own_le t
    rw [if_neg (by simp), if_neg (by simp [h2]), kind_own_eq, obs, hown, kind_Text_L hp (by omega), obs, if_pos rfl, if_neg h0, if_neg h1]
    obtain ⟨kd, cl, N, ⟨o0, o1, o2, o3⟩⟩ := t
    simp only at h2 hcl hN0 hN3 ⊢
    subst h2
    have m0 := hM o0; have m1 := hM o1; have m2 := hM o2; have m3 := hM o3
    have hN4 : N = 0 ∨ N = 1 ∨ N = 2 ∨ N = 3 := by omega
    rcases hN4 with rfl | rfl | rfl | rfl
    · have ho : own { fKind := 2, fClass := cl, fN := 0, fOwn := ⟨o0, o1, o2, o3⟩ } = [o0] := rfl
      rw [ho]
      simp only [List.map_cons, List.map_nil, List.drop_succ_cons, List.drop_zero, List.drop_nil, tailT, List.length_cons, List.length_nil]
      generalize textO o0 ps = t0 at *
      rw [if_neg (by decide), obs]
      by_cases h7 : o0.fKind = 7
      · simp [h7]
      · have hi : idx [t0] 0 = some t0 := rfl
        rw [if_neg (by simpa using h7), if_neg h7, hi, obs, room_t (by omega) (by simp; omega), obs, room_t (by omega) (by simp; omega), obs]
        simp
    · have ho : own { fKind := 2, fClass := cl, fN := 1, fOwn := ⟨o0, o1, o2, o3⟩ } = [o0, o1] := rfl
      rw [ho]
      simp only [List.map_cons, List.map_nil, List.drop_succ_cons, List.drop_zero, List.drop_nil, tailT, List.length_cons, List.length_nil]
      generalize textO o0 ps = t0 at *
      generalize textO o1 ps = t1 at *
      have hc : cutL [t0, t1] 1 ((0 + 1 + 1 : Nat) : Int) = some [t1] := rfl
      have hj : Lib.join [t1] [44, 32] = t1 := by simp [Lib.join, List.intercalate]
      rw [if_pos (by decide), hc, obs]
      unfold strings_Join joinF
      rw [hj, if_pos ⟨by simp, by omega⟩, obs, room_t (by omega) (by simp; omega), obs, room_t (by omega) (by simp; omega), obs, room_t (by omega) (by simp; omega), obs, obs]
      by_cases h7 : o0.fKind = 7
      · simp [h7]
      · have hi : idx [t0, t1] 0 = some t0 := rfl
        rw [if_neg (by simpa using h7), if_neg h7, hi, obs, room_t (by omega) (by simp; omega), obs, room_t (by omega) (by simp; omega), obs]
        simp
    · have ho : own { fKind := 2, fClass := cl, fN := 2, fOwn := ⟨o0, o1, o2, o3⟩ } = [o0, o1, o2] := rfl
      rw [ho]
      simp only [List.map_cons, List.map_nil, List.drop_succ_cons, List.drop_zero, List.drop_nil, tailT, List.length_cons, List.length_nil]
      generalize textO o0 ps = t0 at *
      generalize textO o1 ps = t1 at *
      generalize textO o2 ps = t2 at *
      have hc : cutL [t0, t1, t2] 1 ((0 + 1 + 1 + 1 : Nat) : Int) = some [t1, t2] := rfl
      have hj : Lib.join [t1, t2] [44, 32] = t1 ++ ([44, 32] ++ t2) := by simp [Lib.join, List.intercalate]
      rw [if_pos (by decide), hc, obs]
      unfold strings_Join joinF
      rw [hj, if_pos ⟨by simp, by simp; omega⟩, obs, room_t (by omega) (by simp; omega), obs, room_t (by omega) (by simp; omega), obs, room_t (by omega) (by simp; omega), obs, obs]
      by_cases h7 : o0.fKind = 7
      · simp [h7]
      · have hi : idx [t0, t1, t2] 0 = some t0 := rfl
        rw [if_neg (by simpa using h7), if_neg h7, hi, obs, room_t (by omega) (by simp; omega), obs, room_t (by omega) (by simp; omega), obs]
        simp
    · have ho : own { fKind := 2, fClass := cl, fN := 3, fOwn := ⟨o0, o1, o2, o3⟩ } = [o0, o1, o2, o3] := rfl
      rw [ho]
      simp only [List.map_cons, List.map_nil, List.drop_succ_cons, List.drop_zero, List.drop_nil, tailT, List.length_cons, List.length_nil]
      generalize textO o0 ps = t0 at *
      generalize textO o1 ps = t1 at *
      generalize textO o2 ps = t2 at *
      generalize textO o3 ps = t3 at *
      have hc : cutL [t0, t1, t2, t3] 1 ((0 + 1 + 1 + 1 + 1 : Nat) : Int) = some [t1, t2, t3] := rfl
      have hj : Lib.join [t1, t2, t3] [44, 32] = t1 ++ ([44, 32] ++ (t2 ++ ([44, 32] ++ t3))) := by simp [Lib.join, List.intercalate]
      rw [if_pos (by decide), hc, obs]
      unfold strings_Join joinF
      rw [hj, if_pos ⟨by simp, by simp; omega⟩, obs, room_t (by omega) (by simp; omega), obs, room_t (by omega) (by simp; omega), obs, room_t (by omega) (by simp; omega), obs, obs]
      by_cases h7 : o0.fKind = 7
      · simp [h7]
      · have hi : idx [t0, t1, t2, t3] 0 = some t0 := rfl
        rw [if_neg (by simpa using h7), if_neg h7, hi, obs, room_t (by omega) (by simp; omega), obs, room_t (by omega) (by simp; omega), obs]
        simp

theorem law05_awake_eq : law05_awake = some true := by kernel_rfl
theorem bGType_iff (t u : GType) : bGType t u = true ↔ t = u := by
  constructor
  · intro h
    obtain ⟨a, b, c, ⟨⟨d0, d1⟩, ⟨e0, e1⟩, ⟨f0, f1⟩, ⟨g0, g1⟩⟩⟩ := t
    obtain ⟨a', b', c', ⟨⟨d0', d1'⟩, ⟨e0', e1'⟩, ⟨f0', f1'⟩, ⟨g0', g1'⟩⟩⟩ := u
    simp [bGType] at h
    obtain ⟨rfl, rfl, rfl, rfl, rfl, rfl, rfl, rfl, rfl, rfl, rfl⟩ := h
    rfl
  · rintro rfl; simp [bGType]
theorem holes_foldl : ∀ (l : List GOwner) (s : Int), 0 ≤ s → s + l.length ≤ 1000 → l.foldl holeStep s = s + (l.countP (fun o => o.fKind == 7) : Nat)
  | [], s, _, _ => by simp
  | o :: l, s, h0, h1 => by
    simp only [List.length_cons] at h1
    rw [List.foldl_cons]
    by_cases h : (o.fKind == 7) = true
    · have e : holeStep s o = s + 1 := by unfold holeStep; rw [if_pos h, w64 (by omega) (by omega)]
      rw [e, holes_foldl l _ (by omega) (by omega), List.countP_cons, if_pos h]; omega
    · have e : holeStep s o = s := by unfold holeStep; rw [if_neg h]
      rw [e, holes_foldl l _ h0 (by omega), List.countP_cons, if_neg h]; omega
theorem holes_none {t : GType} (h : ¬ holesS t > 0) : ∀ o ∈ own t, o.fKind ≠ 7 := by
  intro o ho h7
  unfold holesS at h
  rw [holes_foldl _ 0 (by omega) (by have := own_le t; omega)] at h
  have : 0 < (own t).countP (fun o => o.fKind == 7) := List.countP_pos_iff.2 ⟨o, ho, by simpa using h7⟩
  omega
/-! What a text is made of. -/
def cln (s : List UInt8) : Prop := (∀ c ∈ s, isC c = true) ∧ s ≠ []
def opn (r : List UInt8) : Prop := ∀ c r', r = c :: r' → isC c = false
theorem cln_split : ∀ (s s' r r' : List UInt8), (∀ c ∈ s, isC c = true) → (∀ c ∈ s', isC c = true) → opn r → opn r' → s ++ r = s' ++ r' → s = s' ∧ r = r'
  | [], [], r, r', _, _, _, _, h => ⟨rfl, h⟩
  | [], c :: s', r, r', _, h2, h3, _, h => by
    have := h3 c (s' ++ r') (by simpa using h)
    rw [h2 c (by simp)] at this; cases this
  | c :: s, [], r, r', h1, _, _, h4, h => by
    have := h4 c (s ++ r) (by simpa using h.symm)
    rw [h1 c (by simp)] at this; cases this
  | c :: s, c' :: s', r, r', h1, h2, h3, h4, h => by
    simp only [List.cons_append, List.cons.injEq] at h
    obtain ⟨rfl, h⟩ := h
    obtain ⟨e1, e2⟩ := cln_split s s' r r' (fun x hx => h1 x (by simp [hx])) (fun x hx => h2 x (by simp [hx])) h3 h4 h
    exact ⟨by rw [e1], e2⟩
theorem isC_32 : isC 32 = false ∧ isC 60 = false ∧ isC 44 = false ∧ isC 62 = false := by decide +kernel
def flatT (r : List (List UInt8)) : List UInt8 := (r.map ([44, 32] ++ ·)).flatten ++ [62]
theorem flatT_opn (r : List (List UInt8)) : opn (flatT r) := by
  intro c r' h
  cases r with
  | nil => simp [flatT] at h; rw [← h.1]; exact isC_32.2.2.2
  | cons y r => simp [flatT] at h; rw [← h.1]; exact isC_32.2.2.1
theorem flatT_inj : ∀ (r r' : List (List UInt8)), (∀ x ∈ r, cln x) → (∀ x ∈ r', cln x) → flatT r = flatT r' → r = r'
  | [], [], _, _, _ => rfl
  | [], y :: r', _, _, h => by simp [flatT] at h
  | y :: r, [], _, _, h => by simp [flatT] at h
  | y :: r, y' :: r', h1, h2, h => by
    have h' : y ++ flatT r = y' ++ flatT r' := by simpa [flatT] using h
    obtain ⟨e1, e2⟩ := cln_split _ _ _ _ (h1 y (by simp)).1 (h2 y' (by simp)).1 (flatT_opn r) (flatT_opn r') h'
    rw [e1, flatT_inj r r' (fun x hx => h1 x (by simp [hx])) (fun x hx => h2 x (by simp [hx])) e2]
theorem tailT_opn (l : List (List UInt8)) : opn (tailT l) := by
  intro c r' h
  cases l with
  | nil => simp [tailT] at h
  | cons y r => simp [tailT] at h; rw [← h.1]; exact isC_32.2.1
theorem tailT_inj {l l' : List (List UInt8)} (h1 : ∀ x ∈ l, cln x) (h2 : ∀ x ∈ l', cln x) (h : tailT l = tailT l') : l = l' := by
  cases l with
  | nil => cases l' with
    | nil => rfl
    | cons y r => simp [tailT] at h
  | cons x l => cases l' with
    | nil => simp [tailT] at h
    | cons y r =>
      have h' : x ++ flatT l = y ++ flatT r := by simpa [tailT, flatT] using h
      obtain ⟨e1, e2⟩ := cln_split _ _ _ _ (h1 x (by simp)).1 (h2 y (by simp)).1 (flatT_opn l) (flatT_opn r) h'
      rw [e1, flatT_inj l r (fun x hx => h1 x (by simp [hx])) (fun x hx => h2 x (by simp [hx])) e2]
theorem name_cln {s : List UInt8} (h : nameS s = true) : cln s ∧ findS s = 0 := by
  unfold nameS at h
  match s, h with
  | b :: t, h =>
    simp only [Bool.and_eq_true, decide_eq_true_eq, List.all_eq_true, beq_iff_eq] at h
    exact ⟨⟨h.2.2.1, by simp⟩, h.2.2.2⟩
theorem word_cln : ∀ k : Int, k = 1 ∨ k = 2 ∨ k = 4 ∨ k = 5 ∨ k = 6 → cln (wordO k) ∧ findS (wordO k) ≠ 0 := by
  rintro k (rfl | rfl | rfl | rfl | rfl) <;> (unfold cln; decide +kernel)
/-- An owner that may be, and is no hole. -/
def okO (o : GOwner) (ps : List (List UInt8)) : Prop := rightB o (ps.length : Int) = true ∧ o.fKind ≠ 7
theorem okO_cases {o : GOwner} {ps : List (List UInt8)} (h : okO o ps) : (∃ (i : Nat) (p : List UInt8), o = ⟨3, (i : Int) + 1⟩ ∧ ps[i]? = some p ∧ textO o ps = p) ∨ (o.fN = 0 ∧ (o.fKind = 1 ∨ o.fKind = 2 ∨ o.fKind = 4 ∨ o.fKind = 5 ∨ o.fKind = 6) ∧ textO o ps = wordO o.fKind) := by
  have hr := h.1
  rcases rightB_cases hr with ⟨h3, h1, h2⟩ | ⟨h7, _⟩ | ⟨h0, hk⟩
  · have hlt : (o.fN - 1).toNat < ps.length := by omega
    refine .inl ⟨(o.fN - 1).toNat, ps[(o.fN - 1).toNat], ?_, List.getElem?_eq_getElem hlt, ?_⟩
    · obtain ⟨a, b⟩ := o
      simp only at h3 h1 ⊢
      subst h3
      simp only [GOwner.mk.injEq, true_and]
      omega
    · unfold textO
      rw [if_pos hr, if_pos h3, List.getElem?_eq_getElem hlt]; rfl
  · exact absurd h7 h.2
  · refine .inr ⟨h0, hk, ?_⟩
    unfold textO
    rw [if_pos hr, if_neg (by rcases hk with h | h | h | h | h <;> omega)]
theorem wordO_inj : ∀ a b : Int, (a = 1 ∨ a = 2 ∨ a = 4 ∨ a = 5 ∨ a = 6) → (b = 1 ∨ b = 2 ∨ b = 4 ∨ b = 5 ∨ b = 6) → wordO a = wordO b → a = b := by
  rintro a b (rfl | rfl | rfl | rfl | rfl) (rfl | rfl | rfl | rfl | rfl) h <;> first | rfl | (exact absurd h (by decide +kernel))
theorem textO_cln {ps : List (List UInt8)} (hn : ∀ p ∈ ps, nameS p = true) {o : GOwner} (h : okO o ps) : cln (textO o ps) := by
  rcases okO_cases h with ⟨i, p, _, hp, e⟩ | ⟨_, hk, e⟩
  · rw [e]; exact (name_cln (hn p (List.mem_of_getElem? hp))).1
  · rw [e]; exact (word_cln _ hk).1
theorem textO_inj {ps : List (List UInt8)} (hn : ∀ p ∈ ps, nameS p = true) (hd : ∀ (i j : Nat) (p : List UInt8), ps[i]? = some p → ps[j]? = some p → i = j) {o o' : GOwner} (h : okO o ps) (h' : okO o' ps) (e : textO o ps = textO o' ps) : o = o' := by
  rcases okO_cases h with ⟨i, p, e1, hp, e2⟩ | ⟨h0, hk, e2⟩ <;> rcases okO_cases h' with ⟨i', p', e1', hp', e2'⟩ | ⟨h0', hk', e2'⟩
  · rw [e2, e2'] at e
    subst e
    rw [e1, e1', hd i i' p hp hp']
  · rw [e2, e2'] at e
    exact absurd (name_cln (hn p (List.mem_of_getElem? hp))).2 (by rw [e]; exact (word_cln _ hk').2)
  · rw [e2, e2'] at e
    exact absurd (name_cln (hn p' (List.mem_of_getElem? hp'))).2 (by rw [← e]; exact (word_cln _ hk).2)
  · rw [e2, e2'] at e
    have := wordO_inj _ _ hk hk' e
    obtain ⟨a, b⟩ := o
    obtain ⟨a', b'⟩ := o'
    simp only at h0 h0' this
    rw [h0, h0', this]
theorem textOs_inj {ps : List (List UInt8)} (hn : ∀ p ∈ ps, nameS p = true) (hd : ∀ (i j : Nat) (p : List UInt8), ps[i]? = some p → ps[j]? = some p → i = j) : ∀ (l l' : List GOwner), (∀ o ∈ l, okO o ps) → (∀ o ∈ l', okO o ps) → l.map (textO · ps) = l'.map (textO · ps) → l = l'
  | [], [], _, _, _ => rfl
  | [], _ :: _, _, _, h => by simp at h
  | _ :: _, [], _, _, h => by simp at h
  | o :: l, o' :: l', h1, h2, h => by
    simp only [List.map_cons, List.cons.injEq] at h
    rw [textO_inj hn hd (h1 o (by simp)) (h2 o' (by simp)) h.1, textOs_inj hn hd l l' (fun x hx => h1 x (by simp [hx])) (fun x hx => h2 x (by simp [hx])) h.2]
theorem own_head {t : GType} (h : t.fKind = 2) : own t = t.fOwn.a0 :: (own t).drop 1 := by
  unfold own
  rw [if_pos h]
  rfl
theorem textK_obj {t : GType} {ps : List (List UInt8)} (hr : kindR t (ps.length : Int) = true) (hh : ∀ o ∈ own t, o.fKind ≠ 7) (h0 : t.fKind ≠ 0) (h1 : t.fKind ≠ 1) :
    (∀ o ∈ own t, okO o ps) ∧ textK t ps = textO t.fOwn.a0 ps ++ (32 :: (t.fClass ++ tailT (((own t).drop 1).map (textO · ps)))) := by
  obtain ⟨h2, hn, hN0, hN3, ha, _⟩ := kindR_2 hr h0 h1
  refine ⟨fun o ho => ⟨ha o ho, hh o ho⟩, ?_⟩
  unfold textK
  rw [if_pos hr, if_neg h0, if_neg h1, if_neg (hh _ (by rw [own_head h2]; simp))]
  simp
theorem plain_of {t : GType} {m : Int} (hr : kindR t m = true) (h : t.fKind = 0 ∨ t.fKind = 1) : t = plainT t := by
  unfold kindR at hr
  rw [if_pos h] at hr
  exact (bGType_iff _ _).1 hr
theorem cln_no32 {s : List UInt8} (h : ∀ c ∈ s, isC c = true) (a r : List UInt8) : s ≠ a ++ 32 :: r := by
  intro e
  have := h 32 (by rw [e]; simp)
  rw [isC_32.1] at this; cases this
theorem textK_inj {t u : GType} {ps : List (List UInt8)} (hn : ∀ p ∈ ps, nameS p = true) (hd : ∀ (i j : Nat) (p : List UInt8), ps[i]? = some p → ps[j]? = some p → i = j)
    (ht : kindR t (ps.length : Int) = true) (hu : kindR u (ps.length : Int) = true) (hht : ∀ o ∈ own t, o.fKind ≠ 7) (hhu : ∀ o ∈ own u, o.fKind ≠ 7) (h : textK t ps = textK u ps) : t = u := by
  have hvoid : ∀ x : GType, kindR x (ps.length : Int) = true → x.fKind = 0 → textK x ps = [118, 111, 105, 100] := fun x hx h0 => by unfold textK; rw [if_pos hx, if_pos h0]
  have hint : ∀ x : GType, kindR x (ps.length : Int) = true → x.fKind = 1 → textK x ps = [105, 110, 116] := fun x hx h1 => by unfold textK; rw [if_pos hx, if_neg (by omega), if_pos h1]
  have hcv : ∀ c ∈ ([118, 111, 105, 100] : List UInt8), isC c = true := by decide +kernel
  have hci : ∀ c ∈ ([105, 110, 116] : List UInt8), isC c = true := by decide +kernel
  have plainEq : ∀ x y : GType, kindR x (ps.length : Int) = true → kindR y (ps.length : Int) = true → (x.fKind = 0 ∨ x.fKind = 1) → x.fKind = y.fKind → x = y := by
    intro x y hx hy h1 h2
    rw [plain_of hx h1, plain_of hy (by rw [← h2]; exact h1)]
    unfold plainT
    rw [h2]
  by_cases t0 : t.fKind = 0
  · by_cases u0 : u.fKind = 0
    · exact plainEq t u ht hu (.inl t0) (by rw [t0, u0])
    · by_cases u1 : u.fKind = 1
      · rw [hvoid t ht t0, hint u hu u1] at h; exact absurd h (by decide)
      · rw [hvoid t ht t0, (textK_obj hu hhu u0 u1).2] at h; exact absurd h (cln_no32 hcv _ _)
  by_cases t1 : t.fKind = 1
  · by_cases u0 : u.fKind = 0
    · rw [hint t ht t1, hvoid u hu u0] at h; exact absurd h (by decide)
    · by_cases u1 : u.fKind = 1
      · exact plainEq t u ht hu (.inr t1) (by rw [t1, u1])
      · rw [hint t ht t1, (textK_obj hu hhu u0 u1).2] at h; exact absurd h (cln_no32 hci _ _)
  obtain ⟨ot, et⟩ := textK_obj ht hht t0 t1
  by_cases u0 : u.fKind = 0
  · rw [hvoid u hu u0, et] at h; exact absurd h.symm (cln_no32 hcv _ _)
  by_cases u1 : u.fKind = 1
  · rw [hint u hu u1, et] at h; exact absurd h.symm (cln_no32 hci _ _)
  obtain ⟨ou, eu⟩ := textK_obj hu hhu u0 u1
  obtain ⟨t2, tn, tN0, tN3, ta, _, tz⟩ := kindR_2 ht t0 t1
  obtain ⟨u2, un, uN0, uN3, ua, _, uz⟩ := kindR_2 hu u0 u1
  rw [et, eu] at h
  have o32 : ∀ r, opn (32 :: r) := fun r c r' e => by simp at e; rw [← e.1]; exact isC_32.1
  have hmt : t.fOwn.a0 ∈ own t := by rw [own_head t2]; simp
  have hmu : u.fOwn.a0 ∈ own u := by rw [own_head u2]; simp
  obtain ⟨e0, h⟩ := cln_split _ _ _ _ (textO_cln hn (ot _ hmt)).1 (textO_cln hn (ou _ hmu)).1 (o32 _) (o32 _) h
  simp only [List.cons.injEq, true_and] at h
  obtain ⟨ec, h⟩ := cln_split _ _ _ _ (name_cln tn).1.1 (name_cln un).1.1 (tailT_opn _) (tailT_opn _) h
  have hdt : ∀ o ∈ (own t).drop 1, okO o ps := fun o ho => ot o (List.mem_of_mem_drop ho)
  have hdu : ∀ o ∈ (own u).drop 1, okO o ps := fun o ho => ou o (List.mem_of_mem_drop ho)
  have el := textOs_inj hn hd _ _ hdt hdu (tailT_inj (fun x hx => by obtain ⟨o, ho, rfl⟩ := List.mem_map.1 hx; exact textO_cln hn (hdt o ho)) (fun x hx => by obtain ⟨o, ho, rfl⟩ := List.mem_map.1 hx; exact textO_cln hn (hdu o ho)) h)
  have eh := textO_inj hn hd (ot _ hmt) (ou _ hmu) e0
  have eo : own t = own u := by rw [own_head t2, own_head u2, eh, el]
  have hlt := own_len t2
  have hlu := own_len u2
  have hc3 : ∀ n : Int, 0 ≤ n → n ≤ 3 → ((cnt3 n : Nat) : Int) = n := fun n h0 h3 => by unfold cnt3; split; omega; split <;> omega
  have eN : t.fN = u.fN := by rw [← hc3 _ tN0 tN3, ← hc3 _ uN0 uN3]; rw [eo] at hlt; omega
  have hsplit : ∀ x : GType, x.fKind = 2 → (∀ o ∈ x.fOwn.l.drop (own x).length, o = ⟨0, 0⟩) → x.fOwn.l = own x ++ List.replicate (4 - (own x).length) ⟨0, 0⟩ := by
    intro x hx hz
    have h1 : own x = x.fOwn.l.take (own x).length := by
      rw [own_len hx]; unfold own; rw [if_pos hx]
    have h2 : x.fOwn.l.drop (own x).length = List.replicate (4 - (own x).length) ⟨0, 0⟩ := List.eq_replicate_iff.2 ⟨by rw [List.length_drop, A4_len], hz⟩
    rw [← h2]
    conv => rhs; lhs; rw [h1]
    exact (List.take_append_drop _ _).symm
  have eA : t.fOwn = u.fOwn := A4_ext fun j => by rw [hsplit t t2 tz, hsplit u u2 uz, eo]
  obtain ⟨a, b, c, d⟩ := t
  obtain ⟨a', b', c', d'⟩ := u
  simp only at t2 u2 ec eN eA
  rw [t2, u2, ec, eN, eA]
theorem apart_L2 {ps : List (List UInt8)} {i : Nat} {p : List UInt8} (hi : ps[i]? = some p) (hl : ps.length ≤ 6) : ∀ (n k : Nat), n + k = i + 1 → k ≤ i → ∃ r, law05_KindApart_L2 ps (i : Int) n (k : Int) = some r ∧ (r = .stop true ∨ (r = .next () ∧ ∀ j, k ≤ j → j < i → ps[j]? ≠ some p))
  | 0, k, h, hk => by omega
  | n + 1, k, h, hk => by
    have hil : i < ps.length := (List.getElem?_eq_some_iff.1 hi).1
    simp only [law05_KindApart_L2]
    by_cases hlt : k < i
    · have hkl : k < ps.length := by omega
      have hix : idx ps (i : Int) = some p := by rw [idx_lt hil, ← List.getElem?_eq_getElem hil, hi]
      rw [if_pos (by simpa using hlt), idx_lt hkl, obs, hix, obs, law05_awake_eq, w64_succ hkl (by omega)]
      by_cases he : (ps[k] == p) = true
      · rw [if_pos he]; exact ⟨_, rfl, .inl rfl⟩
      · rw [if_neg he]
        obtain ⟨r, h1, h2⟩ := apart_L2 hi hl n (k + 1) (by omega) (by omega)
        refine ⟨r, h1, h2.imp id fun ⟨h3, h4⟩ => ⟨h3, fun j hj hji => ?_⟩⟩
        by_cases hjk : j = k
        · subst hjk
          rw [List.getElem?_eq_getElem hkl]
          intro e
          exact he (by simpa using e)
        · exact h4 j (by omega) hji
    · rw [if_neg (by simp; omega)]
      exact ⟨_, rfl, .inr ⟨rfl, fun j h1 h2 => by omega⟩⟩
theorem apart_L1 {ps : List (List UInt8)} (hl : ps.length ≤ 6) : ∀ (n k : Nat), n + k = ps.length + 1 → k ≤ ps.length → ∃ r, law05_KindApart_L1 ps n (k : Int) = some r ∧
    (r = .stop true ∨ (r = .next () ∧ ∀ (i : Nat) (p : List UInt8), k ≤ i → ps[i]? = some p → nameS p = true ∧ ∀ j, j < i → ps[j]? ≠ some p))
  | 0, k, h, hk => by omega
  | n + 1, k, h, hk => by
    simp only [law05_KindApart_L1]
    by_cases hlt : k < ps.length
    · rw [if_pos (by simpa using hlt), idx_lt hlt, obs, ref02_Name_eq, obs, law05_awake_eq]
      cases hnm : nameS ps[k] with
      | false => exact ⟨_, rfl, .inl rfl⟩
      | true =>
        rw [if_neg (by simp), show (((k : Int) : Int) - (0)).toNat + 1 = k + 1 by omega]
        obtain ⟨r, h1, h2⟩ := apart_L2 (List.getElem?_eq_getElem hlt) hl (k + 1) 0 (by omega) (by omega)
        rw [show ((0 : Nat) : Int) = 0 from rfl] at h1
        rw [h1, obs]
        rcases h2 with rfl | ⟨rfl, h2⟩
        · exact ⟨_, rfl, .inl rfl⟩
        · simp only [Ctl.elim]
          rw [w64_succ hlt (by omega)]
          obtain ⟨r', h3, h4⟩ := apart_L1 hl n (k + 1) (by omega) (by omega)
          refine ⟨r', h3, h4.imp id fun ⟨h5, h6⟩ => ⟨h5, fun i p hi hp => ?_⟩⟩
          by_cases hik : i = k
          · subst hik
            rw [List.getElem?_eq_getElem hlt] at hp
            cases hp
            exact ⟨hnm, fun j hj => h2 j (by omega) hj⟩
          · exact h6 i p (by omega) hp
    · rw [if_neg (by simp; omega)]
      refine ⟨_, rfl, .inr ⟨rfl, fun i p hi hp => ?_⟩⟩
      have := (List.getElem?_eq_some_iff.1 hp).1
      omega
theorem textO_len {ps : List (List UInt8)} (hn : ∀ p ∈ ps, p.length ≤ 10000000000) (o : GOwner) : (textO o ps).length ≤ 10000000000 := by
  unfold textO
  split
  · split
    · cases h : ps[(o.fN - 1).toNat]? with
      | none => simp
      | some p => exact hn p (List.mem_of_getElem? h)
    · unfold wordO
      repeat (first | (split) | (simp only [List.length_cons, List.length_nil]; omega))
  · simp
theorem textK_ne {t : GType} {ps : List (List UInt8)} (hr : kindR t (ps.length : Int) = true) (hh : ∀ o ∈ own t, o.fKind ≠ 7) : textK t ps ≠ [] := by
  by_cases h0 : t.fKind = 0
  · unfold textK; rw [if_pos hr, if_pos h0]; simp
  by_cases h1 : t.fKind = 1
  · unfold textK; rw [if_pos hr, if_neg h0, if_pos h1]; simp
  rw [(textK_obj hr hh h0 h1).2]; simp
theorem law05_KindApart_true {a0 a1 : GType} {a2 : List (List UInt8)} (_ : goodGType a0) (_ : goodGType a1) (_ : listok strok a2) : law05_KindApart a0 a1 a2 = some true := by
  unfold law05_KindApart
  rw [law05_awake_eq, obs]
  by_cases hl : (a2.length : Int) > 6
  · rw [decide_eq_true hl, if_pos rfl, obs, if_pos rfl]
  have hl6 : a2.length ≤ 6 := by omega
  rw [decide_eq_false hl, if_neg (by simp), kind_Holes_eq, obs, kind_Holes_eq, kind_Right_eq, kind_Right_eq]
  by_cases hh0 : holesS a0 > 0
  · rw [decide_eq_true hh0, if_pos rfl, obs, if_pos rfl]
  rw [decide_eq_false hh0, if_neg (by simp), obs]
  by_cases hh1 : holesS a1 > 0
  · rw [decide_eq_true hh1, if_pos rfl, obs, if_pos rfl]
  rw [decide_eq_false hh1, if_neg (by simp), obs]
  cases hr0 : kindR a0 (a2.length : Int) with
  | false => rfl
  | true =>
    rw [if_neg (by simp), obs]
    cases hr1 : kindR a1 (a2.length : Int) with
    | false => rfl
    | true =>
      rw [obs, if_neg (by simp)]
      obtain ⟨r, h1, h2⟩ := apart_L1 hl6 (a2.length + 1) 0 (by omega) (by omega)
      rw [show ((0 : Nat) : Int) = 0 from rfl] at h1
      rw [show (((a2.length : Int) : Int) - 0).toNat + 1 = a2.length + 1 by omega, h1, obs]
      rcases h2 with rfl | ⟨rfl, h2⟩
      · rfl
      · simp only [Ctl.elim]
        have hnm : ∀ p ∈ a2, nameS p = true := fun p hp => by
          obtain ⟨i, hi⟩ := List.getElem?_of_mem hp
          exact (h2 i p (by omega) hi).1
        have hdd : ∀ (i j : Nat) (p : List UInt8), a2[i]? = some p → a2[j]? = some p → i = j := by
          intro i j p hi hj
          rcases Nat.lt_trichotomy i j with h | h | h
          · exact absurd hi ((h2 j p (by omega) hj).2 i h)
          · exact h
          · exact absurd hj ((h2 i p (by omega) hi).2 j h)
        have hM : ∀ o, (textO o a2).length ≤ 10000000000 := textO_len fun p hp => by have := nameS_len (hnm p hp); omega
        rw [kind_Text_eq (by omega) hM, obs, kind_Text_eq (by omega) hM, obs]
        have key : ((textK a0 a2 == textK a1 a2) == bGType a0 a1) = true := by
          by_cases he : a0 = a1
          · subst he; simp [(bGType_iff a0 a0).2 rfl]
          · have e1 : bGType a0 a1 = false := by
              cases h : bGType a0 a1 with
              | false => rfl
              | true => exact absurd ((bGType_iff _ _).1 h) he
            have e2 : (textK a0 a2 == textK a1 a2) = false := by
              cases h : (textK a0 a2 == textK a1 a2) with
              | false => rfl
              | true => exact absurd (textK_inj hnm hdd hr0 hr1 (holes_none hh0) (holes_none hh1) (by simpa using h)) he
            rw [e1, e2]; rfl
        have hne : (textK a0 a2 == []) = false := by simpa using textK_ne hr0 (holes_none hh0)
        rw [if_pos key, obs, hne]
        rfl


end Go.Proofs.YtkmaieldmcjbfaaDoor
