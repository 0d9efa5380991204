/- A part of the proof that the law KindTells gives true for every input. -/
import Derived.Test.YtkmaieldmcjbfaaDoorKindTellsA2
import Derived.Test.YtkmaieldmcjbfaaDoorKindTellsT
import Derived.Test.YtkmaieldmcjbfaaDoorKindTellsA3
import Derived.Test.YtkmaieldmcjbfaaDoorKindTellsD
/- The plain law. -/
namespace Go.Proofs.YtkmaieldmcjbfaaDoor
open Go.RowKit Go.Abs
/-! ### Letters, digits, numbers. -/
theorem fuel_len' (m : Nat) : (((m : Int) : Int) - (0)).toNat + 1 = m + 1 := by omega
theorem letter_eq (b : UInt8) : word_Letter (b.toNat : Int) = ref02_Letter (b.toNat : Int) := by
  have : ∀ k : Fin 256, word_Letter (k.val : Int) = ref02_Letter (k.val : Int) := by decide +kernel
  exact this ⟨b.toNat, b.toNat_lt⟩
def isD (b : UInt8) : Bool := decide (48 ≤ b.toNat ∧ b.toNat ≤ 57)
theorem digit_eq (b : UInt8) : word_Digit (b.toNat : Int) = some (isD b) ∧ ref02_Digit (b.toNat : Int) = some (isD b) := by
  have : ∀ k : Fin 256, word_Digit (k.val : Int) = some (decide (48 ≤ k.val ∧ k.val ≤ 57)) ∧ ref02_Digit (k.val : Int) = some (decide (48 ≤ k.val ∧ k.val ≤ 57)) := by decide +kernel
  exact this ⟨b.toNat, b.toNat_lt⟩
/-! ### The words of the language, and names. -/
def findS (s : List UInt8) : Int := match glob_0.findIdx? (fun y => y == s) with | some i => ((i : Nat) : Int) + 1 | none => 0
theorem findS_nn (s : List UInt8) : 0 ≤ findS s ∧ findS s ≤ 23 := by
  unfold findS
  split
  · rename_i i h
    have := (List.findIdx?_eq_some_iff_getElem.1 h).1
    have e : glob_0.length = 23 := rfl
    omega
  · omega
theorem word_Find_eq (s : List UInt8) : word_Find s = some (findS s) := by
  unfold word_Find word_is slices_IndexFunc_string
  rw [obs, findL (slices_IndexFunc_string_L1 glob_0 (fun z3 => word_is_1 z3 s)) (b := fun y => y == s) (by decide) (fun n x => by simp only [slices_IndexFunc_string_L1, word_is_1, obs]), obs, find_any, obs]
  have h := findS_nn s
  unfold findS at *
  cases hf : glob_0.findIdx? (fun y => y == s) with
  | none => rfl
  | some i => rw [hf] at h; simp only at h ⊢; rw [w64 (by omega) (by omega)]
theorem refFind_L {s : List UInt8} {l : List (List UInt8)} (hl : l.length ≤ 1000) : ∀ (n k : Nat), n + k = l.length + 1 → k ≤ l.length → ref02_Find_L1 s l n (k : Int) = some (match (l.drop k).findIdx? (fun y => y == s) with | some i => .stop (((k + i : Nat) : Int) + 1) | none => .next ())
  | 0, k, h, hk => by omega
  | n + 1, k, h, hk => by
    simp only [ref02_Find_L1]
    by_cases hlt : k < l.length
    · rw [if_pos (by simpa using hlt), idx_lt hlt, List.drop_eq_getElem_cons hlt, obs, List.findIdx?_cons, w64_succ hlt (by omega)]
      cases hb : l[k] == s with
      | true => simp
      | false =>
        rw [if_neg (by simp), refFind_L hl n (k + 1) (by omega) (by omega)]
        cases (l.drop (k + 1)).findIdx? (fun y => y == s) with
        | none => simp
        | some i => simp; omega
    · rw [if_neg (by simpa using hlt), List.drop_eq_nil_of_le (by omega)]
      rfl
theorem ref02_Find_eq (s : List UInt8) : ref02_Find s = some (findS s) := by
  unfold ref02_Find ref02_Words
  rw [obs]
  have h := refFind_L (s := s) (l := glob_0) (by decide) 24 0 (by decide) (by decide)
  have e : (show List (List UInt8) from glob_0).length = 23 := rfl
  show Option.bind (ref02_Find_L1 s glob_0 24 ((0 : Nat) : Int)) _ = _
  rw [h, obs, List.drop_zero]
  unfold findS
  cases glob_0.findIdx? (fun y => y == s) with
  | none => rfl
  | some i => simp [Ctl.elim]
/-! Names. -/
def isL (b : UInt8) : Bool := (word_Letter (b.toNat : Int)).getD false
theorem letter_some (a : Int) : word_Letter a = some ((word_Letter a).getD false) := by unfold word_Letter; split <;> rfl
theorem word_L (b : UInt8) : word_Letter (b.toNat : Int) = some (isL b) := letter_some _
theorem ref02_L (b : UInt8) : ref02_Letter (b.toNat : Int) = some (isL b) := by rw [← letter_eq]; exact word_L b
def isC (b : UInt8) : Bool := isL b || isD b
def nameS (s : List UInt8) : Bool := match s with
  | [] => false
  | b :: t => decide (t.length < 20) && (isL b && ((b :: t).all isC && findS (b :: t) == 0))
theorem idx_bytes {s : List UInt8} {k : Nat} (h : k < s.length) : idx (bytesL s) (k : Int) = some (s[k].toNat : Int) := by
  have hb : k < (bytesL s).length := by simp [bytesL]; exact h
  rw [idx_lt hb]; simp [bytesL]
theorem wName_L {s : List UInt8} (hs : s.length ≤ 1000) : ∀ (n k : Nat), n + k = s.length + 1 → k ≤ s.length → word_Name_L1 s n (k : Int) = some (if (s.drop k).all isC = true then .next () else .stop false)
  | 0, k, h, hk => by omega
  | n + 1, k, h, hk => by
    have hb : (bytesL s).length = s.length := by simp [bytesL]
    simp only [word_Name_L1, hb]
    by_cases hlt : k < s.length
    · rw [if_pos (by simpa using hlt), idx_bytes hlt, obs, word_L, obs, (digit_eq s[k]).1, List.drop_eq_getElem_cons hlt, w64_succ hlt (by omega), wName_L hs n (k + 1) (by omega) (by omega)]
      simp only [List.all_cons, isC]
      rcases Bool.eq_false_or_eq_true (isL s[k]) with h1 | h1 <;> rcases Bool.eq_false_or_eq_true (isD s[k]) with h2 | h2 <;> simp [obs, h1, h2]
    · rw [if_neg (by simpa using hlt), List.drop_eq_nil_of_le (by omega)]; rfl
theorem rName_L {s : List UInt8} (hs : s.length ≤ 1000) : ∀ (n k : Nat), n + k = s.length + 1 → k ≤ s.length → ref02_Name_L1 s n (k : Int) = some (if (s.drop k).all isC = true then .next () else .stop false)
  | 0, k, h, hk => by omega
  | n + 1, k, h, hk => by
    simp only [ref02_Name_L1]
    by_cases hlt : k < s.length
    · rw [if_pos (by simpa using hlt), idx_lt hlt, obs, ref02_L, obs, obs, (digit_eq s[k]).2, List.drop_eq_getElem_cons hlt, w64_succ hlt (by omega), rName_L hs n (k + 1) (by omega) (by omega)]
      simp only [List.all_cons, isC]
      rcases Bool.eq_false_or_eq_true (isL s[k]) with h1 | h1 <;> rcases Bool.eq_false_or_eq_true (isD s[k]) with h2 | h2 <;> simp [obs, h1, h2]
    · rw [if_neg (by simpa using hlt), List.drop_eq_nil_of_le (by omega)]; rfl
theorem word_Name_eq (s : List UInt8) : word_Name s = some (nameS s) := by
  unfold word_Name nameS
  match s with
  | [] => rfl
  | b :: t =>
    have hi : idx (b :: t) 0 = some b := rfl
    have hb : (bytesL (b :: t)).length = (b :: t).length := by simp [bytesL]
    by_cases h20 : t.length < 20
    · have e0 : ((b :: t) == ([] : List UInt8)) = false := rfl
      have e1 : decide (((b :: t).length : Int) > 20) = false := by simp; omega
      rw [e0, e1, hi, if_neg (by simp), if_neg (by simp), obs, word_L, obs, obs]
      cases hL : isL b with
      | false => simp [hL]
      | true =>
        rw [if_neg (by simp), room_ok (by simp; omega), obs, hb, fuel_len', show (0 : Int) = ((0 : Nat) : Int) from rfl, wName_L (by simp; omega) _ 0 (by omega) (by omega), obs, List.drop_zero]
        cases hA : (b :: t).all isC with
        | false => rw [if_neg (by simp)]; simp [Ctl.elim, hL, hA]
        | true => rw [if_pos rfl]; simp only [Ctl.elim, word_Find_eq, obs]; simp [h20, hL, hA]
    · have e0 : ((b :: t) == ([] : List UInt8)) = false := rfl
      have e1 : decide (((b :: t).length : Int) > 20) = true := by simp; omega
      rw [e0, e1]
      simp [h20]
theorem ref02_Name_eq (s : List UInt8) : ref02_Name s = some (nameS s) := by
  unfold ref02_Name nameS
  match s with
  | [] => rfl
  | b :: t =>
    have hi : idx (b :: t) 0 = some b := rfl
    have e0 : decide (((b :: t).length : Int) < 1) = false := by simp; omega
    by_cases h20 : t.length < 20
    · have e1 : decide (((b :: t).length : Int) > 20) = false := by simp; omega
      rw [e0, e1, hi, if_neg (by simp), if_neg (by simp), obs, ref02_L, obs, ref02_Find_eq, obs]
      have hn := findS_nn (b :: t)
      cases hL : isL b with
      | false => simp [hL]
      | true =>
        by_cases hf : findS (b :: t) = 0
        · rw [hf, if_neg (by simp), obs, if_neg (by simp), fuel_len', show (0 : Int) = ((0 : Nat) : Int) from rfl, rName_L (by simp; omega) _ 0 (by omega) (by omega), obs, List.drop_zero]
          cases hA : (b :: t).all isC with
          | false => rw [if_neg (by simp)]; simp [Ctl.elim, hL, hA]
          | true => rw [if_pos rfl]; simp [Ctl.elim, h20, hL, hA, hf]
        · rw [if_neg (by simp), obs, if_pos (by simp; omega)]
          simp [hf, hL]
    · have e1 : decide (((b :: t).length : Int) > 20) = true := by simp; omega
      rw [e0, e1]
      simp [h20]
/-! ### The owners of a type. -/
/-- How many owners stand behind the class. -/
def cnt3 (n : Int) : Nat := if n ≤ 0 then 0 else if 3 ≤ n then 3 else n.toNat
theorem cnt3_le (n : Int) : cnt3 n ≤ 3 := by unfold cnt3; split; omega; split; omega; omega
theorem cnt3_ite (n : Int) : (if (if 3 < n then 3 else n) > 0 then (if 3 < n then 3 else n) else 0) = ((cnt3 n : Nat) : Int) := by
  unfold cnt3
  by_cases h : n ≤ 0
  · rw [if_neg (show ¬ 3 < n by omega), if_neg (show ¬ n > 0 by omega), if_pos h]; rfl
  · by_cases h3 : 3 ≤ n
    · by_cases h4 : 3 < n
      · simp only [if_pos h4, if_neg h, if_pos h3]; omega
      · simp only [if_neg h4, if_neg h, if_pos h3]; rw [if_pos (by omega)]; omega
    · simp only [if_neg (show ¬ 3 < n by omega), if_neg h, if_neg h3]; rw [if_pos (by omega)]; omega
def own (t : GType) : List GOwner := if t.fKind = 2 then t.fOwn.l.take (cnt3 t.fN + 1) else []
theorem A4_len {α : Type} (x : A4 α) : x.l.length = 4 := rfl
theorem own_len {t : GType} (h : t.fKind = 2) : (own t).length = cnt3 t.fN + 1 := by
  unfold own; rw [if_pos h, List.length_take, A4_len]; have := cnt3_le t.fN; omega
theorem own_le (t : GType) : (own t).length ≤ 4 := by
  unfold own; split
  · rw [List.length_take, A4_len]; omega
  · simp
theorem kind_own_eq (t : GType) : kind_own t = some (t.fOwn.l.take (cnt3 t.fN + 1)) := by
  unfold kind_own
  have := cnt3_le t.fN
  rw [cnt3_ite, w64 (by omega) (by omega), show ((cnt3 t.fN : Nat) : Int) + 1 = ((cnt3 t.fN + 1 : Nat) : Int) by omega]
  unfold cutL
  rw [if_pos ⟨by omega, by omega, by rw [A4_len]; omega⟩]
  simp
/-! ### Owners, put. -/
theorem bGOwner_eq (a b : GOwner) : bGOwner a b = decide (a = b) := by
  rw [Bool.eq_iff_iff]; cases a; cases b; simp [bGOwner]
/-! ### Which owners and types may be. -/
def rightB (o : GOwner) (m : Int) : Bool := if o.fKind = 3 then decide (0 < o.fN) && decide (o.fN ≤ m) else if o.fKind = 7 then decide (0 ≤ o.fN) else decide (o.fN = 0) && (decide (o.fKind = 1) || (decide (o.fKind = 2) || (decide (o.fKind = 4) || (decide (o.fKind = 5) || decide (o.fKind = 6)))))
theorem owner_Right_eq (o : GOwner) (m : Int) : owner_Right o m = some (rightB o m) := by
  unfold owner_Right rightB
  by_cases h3 : o.fKind = 3
  · by_cases hn : o.fN > 0 <;> simp [h3, hn, Ctl.go]
  by_cases h7 : o.fKind = 7
  · simp [h7, Ctl.go]
  by_cases h1 : o.fKind = 1
  · simp [h1, Ctl.go]; rfl
  by_cases h2 : o.fKind = 2
  · simp [h2, Ctl.go]; rfl
  by_cases h4 : o.fKind = 4
  · simp [h4, Ctl.go, obind]; rfl
  by_cases h5 : o.fKind = 5
  · simp [h5, Ctl.go, obind]; rfl
  by_cases h6 : o.fKind = 6
  · simp [h6, Ctl.go, obind]; rfl
  simp [h3, h7, h1, h2, h4, h5, h6, Ctl.go, obind]
theorem ref04_Right_eq (o : GOwner) (m : Int) : ref04_Right o m = some (rightB o m) := by
  unfold ref04_Right rightB
  by_cases h3 : o.fKind = 3
  · by_cases hn : o.fN ≥ 1
    · simp [h3, hn]; omega
    · simp [h3, hn]; omega
  by_cases h7 : o.fKind = 7
  · simp [h7]
  by_cases h0 : o.fN = 0
  · by_cases h1 : o.fKind = 1
    · simp [h1, h0]
    by_cases h2 : o.fKind = 2
    · simp [h2, h0]
    by_cases h4 : o.fKind = 4
    · simp [h4, h0]
    by_cases h5 : o.fKind = 5
    · simp [h5, h0]
    simp [h3, h7, h1, h2, h4, h5, h0]; rfl
  · simp [h3, h7, h0]
def plainT (t : GType) : GType := { fKind := t.fKind, fClass := [], fN := 0, fOwn := ⟨zGOwner, zGOwner, zGOwner, zGOwner⟩ }
def kindR (t : GType) (m : Int) : Bool := if t.fKind = 0 ∨ t.fKind = 1 then bGType t (plainT t) else if t.fKind = 2 then
  nameS t.fClass && (decide (0 ≤ t.fN) && (decide (t.fN ≤ 3) && ((own t).all (fun o => rightB o m) && (((own t).drop 1).all (fun o => !decide (o.fKind = 6)) && (t.fOwn.l.drop (own t).length).all (fun o => bGOwner o ⟨0, 0⟩))))) else false
theorem kR_L1 {l : List GOwner} (m : Int) (hl : l.length ≤ 1000) : kind_Right_L1 m l ((((l.length : Int) : Int) - (0)).toNat + 1) 0 = some (if l.all (fun o => rightB o m) = true then .next () else .stop false) := by
  rw [anyL (kind_Right_L1 m l) (by omega) (b := fun o => !rightB o m) (r := false) (fun n x => by
    simp only [kind_Right_L1, owner_Right_eq, obs])]
  rw [List.any_eq_not_all_not]
  simp only [Bool.not_not]
  cases l.all (fun o => rightB o m) <;> rfl
theorem kR_L2 {l : List GOwner} (hl : l.length ≤ 1000) : kind_Right_L2 l ((((l.length : Int) : Int) - (0)).toNat + 1) 0 = some (if l.all (fun o => !decide (o.fKind = 6)) = true then .next () else .stop false) := by
  rw [anyL (kind_Right_L2 l) (by omega) (b := fun o => decide (o.fKind = 6)) (r := false) (fun n x => by
    simp only [kind_Right_L2, beq_iff_eq, decide_eq_true_eq])]
  rw [List.any_eq_not_all_not]
  cases l.all (fun o => !decide (o.fKind = 6)) <;> rfl
theorem kR_L3 {l : List GOwner} (hl : l.length ≤ 1000) : kind_Right_L3 l ((((l.length : Int) : Int) - (0)).toNat + 1) 0 = some (if l.all (fun o => bGOwner o ⟨0, 0⟩) = true then .next () else .stop false) := by
  rw [anyL (kind_Right_L3 l) (by omega) (b := fun o => !bGOwner o ⟨0, 0⟩) (r := false) (fun n x => by
    simp only [kind_Right_L3])]
  rw [List.any_eq_not_all_not]
  simp only [Bool.not_not]
  cases l.all (fun o => bGOwner o ⟨0, 0⟩) <;> rfl
theorem cutL_drop {α : Type} {l : List α} {k : Nat} (h : k ≤ l.length) : cutL l (k : Int) (l.length : Int) = some (l.drop k) := by
  unfold cutL
  rw [if_pos ⟨by omega, by omega, by omega⟩]
  simp
theorem kind_Right_eq (t : GType) (m : Int) : kind_Right t m = some (kindR t m) := by
  unfold kind_Right kindR
  by_cases h0 : t.fKind = 0
  · simp [h0, plainT]
  by_cases h1 : t.fKind = 1
  · simp [h1, plainT]
  have e1 : (t.fKind == 0) = false := by simpa using h0
  have e2 : (t.fKind == 1) = false := by simpa using h1
  rw [if_neg (show ¬ (t.fKind = 0 ∨ t.fKind = 1) by simp [h0, h1])]
  simp only [e1, e2, Bool.false_eq_true, if_false, obs]
  by_cases h2 : t.fKind = 2
  · have e3 : (t.fKind == 2) = true := by simpa using h2
    rw [if_pos h2]
    simp only [e3, if_true, word_Name_eq, obs]
    cases hn : nameS t.fClass with
    | false => rfl
    | true =>
      by_cases hN : t.fN < 0
      · have e4 : decide (0 ≤ t.fN) = false := by simp; omega
        simp [hN, e4]
      by_cases hN3 : t.fN > 3
      · have e4 : decide (t.fN ≤ 3) = false := by simp; omega
        simp [hN, hN3, e4]
      have hle := own_le t
      have hol := own_len h2
      have hown : t.fOwn.l.take (cnt3 t.fN + 1) = own t := by unfold own; rw [if_pos h2]
      have e4 : decide (0 ≤ t.fN) = true := by simp; omega
      have e5 : decide (t.fN ≤ 3) = true := by simp; omega
      rw [e4, e5, decide_eq_false hN, decide_eq_false hN3, kind_own_eq, hown]
      simp only [Bool.not_true, Bool.false_eq_true, if_false, obs, kR_L1 m (show (own t).length ≤ 1000 by omega)]
      cases ha : (own t).all (fun o => rightB o m) with
      | false => rfl
      | true =>
        simp only [if_true, Ctl.elim]
        have c1 := cutL_drop (l := own t) (k := 1) (by omega)
        rw [show ((1 : Nat) : Int) = 1 from rfl] at c1
        rw [c1, obs, kR_L2 (by simp; omega), obs]
        cases hb : ((own t).drop 1).all (fun o => !decide (o.fKind = 6)) with
        | false => rfl
        | true =>
          simp only [if_true]
          have c2 := cutL_drop (l := t.fOwn.l) (k := (own t).length) (by rw [A4_len]; omega)
          rw [c2, obs, kR_L3 (by simp [A4_len]; omega), obs]
          cases (t.fOwn.l.drop (own t).length).all (fun o => bGOwner o ⟨0, 0⟩) <;> rfl
  · have e3 : (t.fKind == 2) = false := by simpa using h2
    rw [if_neg h2]
    simp only [e3, Bool.false_eq_true, if_false]
def r5B (t : GType) (m : Int) (k : Nat) : Bool := match t.fOwn.l[k]? with
  | some o => if decide ((k : Int) > t.fN) = true then !bGOwner o ⟨0, 0⟩ else (!rightB o m || (decide (0 < k) && decide (o.fKind = 6)))
  | none => false
theorem ref05_Right_L {t : GType} {m : Int} : ref05_Right_L1 t m (((4 : Int) - (0)).toNat + 1) 0 = some (if (List.range 4).any (r5B t m) = true then .stop false else .next ()) := by
  refine anyI (len := 4) (fun n x => ref05_Right_L1 t m n x) (by omega) (b := r5B t m) (r := false) (fun n k hk => ?_) (fun n => by simp only [ref05_Right_L1]; rfl)
  simp only [ref05_Right_L1]
  have hlt : k < t.fOwn.l.length := by rw [A4_len]; exact hk
  rw [if_pos (by simp; omega), idx_lt hlt, obs, w64 (by omega) (by omega), show ((k : Int) + 1) = ((k + 1 : Nat) : Int) by omega]
  unfold r5B
  rw [List.getElem?_eq_getElem hlt]
  simp only [ref04_Right_eq, obs]
  by_cases hg : (k : Int) > t.fN
  · have e : ¬ (k : Int) ≤ t.fN := by omega
    simp only [decide_eq_true hg, decide_eq_false e, if_true, Bool.false_eq_true, if_false]
    cases bGOwner t.fOwn.l[k] ⟨0, 0⟩ <;> rfl
  · have e : (k : Int) ≤ t.fN := by omega
    simp only [decide_eq_false hg, decide_eq_true e, if_true, Bool.false_eq_true, if_false]
    cases rightB t.fOwn.l[k] m with
    | false => rfl
    | true =>
      by_cases h0 : 0 < k
      · have e2 : (k : Int) > 0 := by omega
        simp only [decide_eq_true h0, decide_eq_true e2, Bool.not_true, Bool.false_eq_true, if_false, if_true, obs, Bool.false_or, Bool.true_and, beq_iff_eq, decide_eq_true_eq]
      · have e2 : ¬ (k : Int) > 0 := by omega
        simp only [decide_eq_false h0, decide_eq_false e2, Bool.not_true, Bool.false_eq_true, if_false, obs, Bool.false_or, Bool.false_and]
theorem ref05_Right_eq (t : GType) (m : Int) : ref05_Right t m = some (kindR t m) := by
  unfold ref05_Right kindR
  by_cases h0 : t.fKind = 0
  · simp [h0, plainT]
  by_cases h1 : t.fKind = 1
  · simp [h1, plainT]
  have e1 : (t.fKind == 0) = false := by simpa using h0
  have e2 : (t.fKind == 1) = false := by simpa using h1
  rw [if_neg (show ¬ (t.fKind = 0 ∨ t.fKind = 1) by simp [h0, h1])]
  simp only [e1, e2, Bool.false_eq_true, if_false, obs]
  by_cases h2 : t.fKind = 2
  · have e3 : (t.fKind != 2) = false := by simp [h2]
    rw [if_pos h2]
    simp only [e3, Bool.false_eq_true, if_false, ref02_Name_eq, obs]
    cases hn : nameS t.fClass with
    | false => rfl
    | true =>
      by_cases hN : t.fN < 0
      · have e4 : decide (0 ≤ t.fN) = false := by simp; omega
        simp [hN, e4]
      by_cases hN3 : t.fN > 3
      · have e4 : decide (t.fN ≤ 3) = false := by simp; omega
        simp [hN, hN3, e4]
      have e4 : decide (0 ≤ t.fN) = true := by simp; omega
      have e5 : decide (t.fN ≤ 3) = true := by simp; omega
      rw [e4, e5, decide_eq_false hN, decide_eq_false hN3]
      simp only [Bool.not_true, Bool.false_eq_true, if_false, obs, ref05_Right_L]
      have key : (List.range 4).any (r5B t m) = !((own t).all (fun o => rightB o m) && (((own t).drop 1).all (fun o => !decide (o.fKind = 6)) && (t.fOwn.l.drop (own t).length).all (fun o => bGOwner o ⟨0, 0⟩))) := by
        obtain ⟨kd, cl, N, ⟨o0, o1, o2, o3⟩⟩ := t
        have hN4 : N = 0 ∨ N = 1 ∨ N = 2 ∨ N = 3 := by simp only at hN hN3; omega
        simp only at h2
        subst h2
        rcases hN4 with rfl | rfl | rfl | rfl
        all_goals
          simp only [own, cnt3, A4.l, List.range, List.range.loop, List.any_cons, List.any_nil, r5B]
          simp
          try ac_rfl
      rw [key]
      cases ((own t).all (fun o => rightB o m) && (((own t).drop 1).all (fun o => !decide (o.fKind = 6)) && (t.fOwn.l.drop (own t).length).all (fun o => bGOwner o ⟨0, 0⟩))) <;> rfl
  · have e3 : (t.fKind != 2) = true := by simpa using h2
    simp only [e3, if_true, obs]
    rw [if_neg h2]

/-! ### The text of a type. -/
def wordO (k : Int) : List UInt8 := if k = 1 then [114, 101, 112] else if k = 2 then [112, 101, 101, 114] else if k = 4 then [119, 111, 114, 108, 100] else if k = 5 then [97, 110, 121] else if k = 6 then [117, 110, 105, 113, 117, 101] else [63]
def textO (o : GOwner) (ps : List (List UInt8)) : List UInt8 := if rightB o (ps.length : Int) = true then (if o.fKind = 3 then (ps[(o.fN - 1).toNat]?).getD [] else wordO o.fKind) else []
theorem rightB_cases {o : GOwner} {m : Int} (h : rightB o m = true) : (o.fKind = 3 ∧ 0 < o.fN ∧ o.fN ≤ m) ∨ (o.fKind = 7 ∧ 0 ≤ o.fN) ∨ (o.fN = 0 ∧ (o.fKind = 1 ∨ o.fKind = 2 ∨ o.fKind = 4 ∨ o.fKind = 5 ∨ o.fKind = 6)) := by
  unfold rightB at h
  split at h
  · rename_i h3; simp at h; exact .inl ⟨h3, h.1, h.2⟩
  · split at h
    · rename_i h7; simp at h; exact .inr (.inl ⟨h7, h⟩)
    · simp at h; exact .inr (.inr h)
theorem owner_Text_eq (o : GOwner) (ps : List (List UInt8)) (hp : ps.length ≤ 1000) : owner_Text o ps = some (textO o ps) := by
  unfold owner_Text textO
  rw [owner_Right_eq, obs]
  cases hr : rightB o (ps.length : Int) with
  | false => simp
  | true =>
    rcases rightB_cases hr with ⟨h3, h1, h2⟩ | ⟨h7, _⟩ | ⟨_, h1 | h1 | h1 | h1 | h1⟩
    · have e : w_i64 (o.fN - 1) = (((o.fN - 1).toNat : Nat) : Int) := by rw [w64 (by omega) (by omega)]; omega
      have hlt : (o.fN - 1).toNat < ps.length := by omega
      generalize (o.fN - 1).toNat = j at *
      simp only [h3, e, idx_lt hlt, obs, List.getElem?_eq_getElem hlt]
      simp
    · simp [h7, wordO]
    · simp [h1, wordO]
    · simp [h1, wordO]
    · simp [h1, wordO]
    · simp [h1, wordO]
    · simp [h1, wordO]
theorem ref04_Text_eq (o : GOwner) (ps : List (List UInt8)) (hp : ps.length ≤ 1000) : ref04_Text o ps = some (textO o ps) := by
  unfold ref04_Text textO
  rw [ref04_Right_eq, obs]
  cases hr : rightB o (ps.length : Int) with
  | false => simp
  | true =>
    rcases rightB_cases hr with ⟨h3, h1, h2⟩ | ⟨h7, _⟩ | ⟨_, h1 | h1 | h1 | h1 | h1⟩
    · have e : w_i64 (o.fN - 1) = (((o.fN - 1).toNat : Nat) : Int) := by rw [w64 (by omega) (by omega)]; omega
      have hlt : (o.fN - 1).toNat < ps.length := by omega
      generalize (o.fN - 1).toNat = j at *
      simp only [h3, e, idx_lt hlt, obs, List.getElem?_eq_getElem hlt]
      simp
    · simp only [h7]; rfl
    all_goals (simp only [h1]; rfl)
def tailT : List (List UInt8) → List UInt8
  | [] => []
  | x :: r => [60] ++ (x ++ ((r.map ([44, 32] ++ ·)).flatten ++ [62]))
def textK (t : GType) (ps : List (List UInt8)) : List UInt8 := if kindR t (ps.length : Int) = true then (if t.fKind = 0 then [118, 111, 105, 100] else if t.fKind = 1 then [105, 110, 116] else
  (if t.fOwn.a0.fKind = 7 then [] else textO t.fOwn.a0 ps ++ [32]) ++ (t.fClass ++ tailT (((own t).drop 1).map (textO · ps)))) else []
theorem room_t {n : Int} (h0 : 0 ≤ n) (h : n ≤ 100000000000) : room n 1 = some () := room_ok (by omega)
theorem kind_Text_L {ps : List (List UInt8)} (hp : ps.length ≤ 1000) {l : List GOwner} (hl : l.length ≤ 1000) : kind_Text_L1 ps l ((((l.length : Int) : Int) - (0)).toNat + 1) [] 0 = some (l.map (textO · ps)) := by
  rw [foldL (fun n s x => kind_Text_L1 ps l n s x) (by omega) (f := fun s y => Option.bind (room ((s.length : Int) + ([textO y ps].length : Int)) 16) fun _ => some (s ++ [textO y ps])) (fin := fun s => some s) (fun n s x => by
    simp only [kind_Text_L1]
    by_cases hc : decide (x < (l.length : Int)) = true
    · rw [if_pos hc, if_pos hc]
      cases idx l x with
      | none => simp only [Option.bind_none]
      | some y => simp only [obs, owner_Text_eq y ps hp, Option.bind_assoc]
    · rw [if_neg hc, if_neg hc])]
  rw [foldO_room _ (textO · ps) 1000 (fun s y hs => by rw [room_ok (by simp only [List.length_cons, List.length_nil]; omega), obs]) l [] (by simp; omega), obs]
  rfl
theorem kindR_2 {t : GType} {m : Int} (h : kindR t m = true) (h0 : t.fKind ≠ 0) (h1 : t.fKind ≠ 1) : t.fKind = 2 ∧ nameS t.fClass = true ∧ 0 ≤ t.fN ∧ t.fN ≤ 3 ∧ (∀ o ∈ own t, rightB o m = true) ∧ (∀ o ∈ (own t).drop 1, o.fKind ≠ 6) ∧ ∀ o ∈ t.fOwn.l.drop (own t).length, o = ⟨0, 0⟩ := by
  unfold kindR at h
  rw [if_neg (by simp [h0, h1])] at h
  split at h
  · rename_i h2
    simp only [Bool.and_eq_true, decide_eq_true_eq, List.all_eq_true, Bool.not_eq_true', decide_eq_false_iff_not] at h
    obtain ⟨a, b, c, d, e, f⟩ := h
    exact ⟨h2, a, b, c, d, e, fun o ho => by have := f o ho; rw [bGOwner_eq] at this; simpa using this⟩
  · cases h
theorem nameS_len {s : List UInt8} (h : nameS s = true) : s.length ≤ 20 := by
  unfold nameS at h
  match s with
  | [] => simp
  | b :: t => simp at h; simp; omega
theorem kind_Text_eq {t : GType} {ps : List (List UInt8)} (hp : ps.length ≤ 1000) (hM : ∀ o, (textO o ps).length ≤ 10000000000) : kind_Text t ps = some (textK t ps) := by
  unfold kind_Text textK
  rw [kind_Right_eq, obs]
  cases hr : kindR t (ps.length : Int) with
  | false => rfl
  | true =>
    by_cases h0 : t.fKind = 0
    · simp [h0]
    by_cases h1 : t.fKind = 1
    · simp [h1]
    obtain ⟨h2, hn, hN0, hN3, _⟩ := kindR_2 hr h0 h1
    have hcl := nameS_len hn
    have hown : t.fOwn.l.take (cnt3 t.fN + 1) = own t := by unfold own; rw [if_pos h2]
    have hle := own_le t
    rw [if_neg (by simp), if_neg (by simp [h2]), kind_own_eq, obs, hown, kind_Text_L hp (by omega), obs, if_pos rfl, if_neg h0, if_neg h1]
    obtain ⟨kd, cl, N, ⟨o0, o1, o2, o3⟩⟩ := t
    simp only at h2 hcl hN0 hN3 ⊢
    subst h2
    have m0 := hM o0; have m1 := hM o1; have m2 := hM o2; have m3 := hM o3
    have hN4 : N = 0 ∨ N = 1 ∨ N = 2 ∨ N = 3 := by omega
    rcases hN4 with rfl | rfl | rfl | rfl
    · have ho : own { fKind := 2, fClass := cl, fN := 0, fOwn := ⟨o0, o1, o2, o3⟩ } = [o0] := rfl
      rw [ho]
      simp only [List.map_cons, List.map_nil, List.drop_succ_cons, List.drop_zero, List.drop_nil, tailT, List.length_cons, List.length_nil]
      generalize textO o0 ps = t0 at *
      rw [if_neg (by decide), obs]
      by_cases h7 : o0.fKind = 7
      · simp [h7]
      · have hi : idx [t0] 0 = some t0 := rfl
        rw [if_neg (by simpa using h7), if_neg h7, hi, obs, room_t (by omega) (by simp; omega), obs, room_t (by omega) (by simp; omega), obs]
        simp
    · have ho : own { fKind := 2, fClass := cl, fN := 1, fOwn := ⟨o0, o1, o2, o3⟩ } = [o0, o1] := rfl
      rw [ho]
      simp only [List.map_cons, List.map_nil, List.drop_succ_cons, List.drop_zero, List.drop_nil, tailT, List.length_cons, List.length_nil]
      generalize textO o0 ps = t0 at *
      generalize textO o1 ps = t1 at *
      have hc : cutL [t0, t1] 1 ((0 + 1 + 1 : Nat) : Int) = some [t1] := rfl
      have hj : Lib.join [t1] [44, 32] = t1 := by simp [Lib.join, List.intercalate]
      rw [if_pos (by decide), hc, obs]
      unfold strings_Join joinF
      rw [hj, if_pos ⟨by simp, by omega⟩, obs, room_t (by omega) (by simp; omega), obs, room_t (by omega) (by simp; omega), obs, room_t (by omega) (by simp; omega), obs, obs]
      by_cases h7 : o0.fKind = 7
      · simp [h7]
      · have hi : idx [t0, t1] 0 = some t0 := rfl
        rw [if_neg (by simpa using h7), if_neg h7, hi, obs, room_t (by omega) (by simp; omega), obs, room_t (by omega) (by simp; omega), obs]
        simp
    · have ho : own { fKind := 2, fClass := cl, fN := 2, fOwn := ⟨o0, o1, o2, o3⟩ } = [o0, o1, o2] := rfl
      rw [ho]
      simp only [List.map_cons, List.map_nil, List.drop_succ_cons, List.drop_zero, List.drop_nil, tailT, List.length_cons, List.length_nil]
      generalize textO o0 ps = t0 at *
      generalize textO o1 ps = t1 at *
      generalize textO o2 ps = t2 at *
      have hc : cutL [t0, t1, t2] 1 ((0 + 1 + 1 + 1 : Nat) : Int) = some [t1, t2] := rfl
      have hj : Lib.join [t1, t2] [44, 32] = t1 ++ ([44, 32] ++ t2) := by simp [Lib.join, List.intercalate]
      rw [if_pos (by decide), hc, obs]
      unfold strings_Join joinF
      rw [hj, if_pos ⟨by simp, by simp; omega⟩, obs, room_t (by omega) (by simp; omega), obs, room_t (by omega) (by simp; omega), obs, room_t (by omega) (by simp; omega), obs, obs]
      by_cases h7 : o0.fKind = 7
      · simp [h7]
      · have hi : idx [t0, t1, t2] 0 = some t0 := rfl
        rw [if_neg (by simpa using h7), if_neg h7, hi, obs, room_t (by omega) (by simp; omega), obs, room_t (by omega) (by simp; omega), obs]
        simp
    · have ho : own { fKind := 2, fClass := cl, fN := 3, fOwn := ⟨o0, o1, o2, o3⟩ } = [o0, o1, o2, o3] := rfl
      rw [ho]
      simp only [List.map_cons, List.map_nil, List.drop_succ_cons, List.drop_zero, List.drop_nil, tailT, List.length_cons, List.length_nil]
      generalize textO o0 ps = t0 at *
      generalize textO o1 ps = t1 at *
      generalize textO o2 ps = t2 at *
      generalize textO o3 ps = t3 at *
      have hc : cutL [t0, t1, t2, t3] 1 ((0 + 1 + 1 + 1 + 1 : Nat) : Int) = some [t1, t2, t3] := rfl
      have hj : Lib.join [t1, t2, t3] [44, 32] = t1 ++ ([44, 32] ++ (t2 ++ ([44, 32] ++ t3))) := by simp [Lib.join, List.intercalate]
      rw [if_pos (by decide), hc, obs]
      unfold strings_Join joinF
      rw [hj, if_pos ⟨by simp, by simp; omega⟩, obs, room_t (by omega) (by simp; omega), obs, room_t (by omega) (by simp; omega), obs, room_t (by omega) (by simp; omega), obs, obs]
      by_cases h7 : o0.fKind = 7
      · simp [h7]
      · have hi : idx [t0, t1, t2, t3] 0 = some t0 := rfl
        rw [if_neg (by simpa using h7), if_neg h7, hi, obs, room_t (by omega) (by simp; omega), obs, room_t (by omega) (by simp; omega), obs]
        simp

theorem r5T_step {t : GType} {ps : List (List UInt8)} (hp : ps.length ≤ 1000) (hM : ∀ o, (textO o ps).length ≤ 10000000000) {n k : Nat} {x : List UInt8} {o : GOwner} (hk : (k : Int) ≤ t.fN) (ho : t.fOwn.l[k]? = some o) (hx : x.length ≤ 50000000000) :
    ref05_Text_L1 t ps (n + 1) x (k : Int) = ref05_Text_L1 t ps n ((x ++ (if k = 1 then [60] else [44, 32])) ++ textO o ps) ((k + 1 : Nat) : Int) := by
  have hlt : k < t.fOwn.l.length := (List.getElem?_eq_some_iff.1 ho).1
  have h4 : k < 4 := by rw [A4_len] at hlt; exact hlt
  have hM0 := hM o
  have hi : idx t.fOwn.l (k : Int) = some o := by rw [idx_lt hlt, ← List.getElem?_eq_getElem hlt, ho]
  simp only [ref05_Text_L1]
  rw [if_pos (by simpa using hk), w64 (by omega) (by omega), show ((k : Int) + 1) = ((k + 1 : Nat) : Int) by omega]
  by_cases h1 : k = 1
  · subst h1
    rw [if_pos (by decide), if_pos rfl, room_t (by omega) (by simp only [List.length_cons, List.length_nil]; omega), obs, obs, hi, obs, ref04_Text_eq _ _ hp, obs, room_t (by omega) (by simp only [List.length_append, List.length_cons, List.length_nil]; omega), obs]
  · rw [if_neg (by simp; omega), if_neg h1, room_t (by omega) (by simp only [List.length_cons, List.length_nil]; omega), obs, obs, hi, obs, ref04_Text_eq _ _ hp, obs, room_t (by omega) (by simp only [List.length_append, List.length_cons, List.length_nil]; omega), obs]
theorem r5T_end {t : GType} {ps : List (List UInt8)} {n k : Nat} {x : List UInt8} (hk : t.fN < (k : Int)) : ref05_Text_L1 t ps (n + 1) x (k : Int) = some x := by
  simp only [ref05_Text_L1]
  rw [if_neg (by simp; omega)]
theorem r5T_one {t : GType} {ps : List (List UInt8)} (hp : ps.length ≤ 1000) (hM : ∀ o, (textO o ps).length ≤ 10000000000) {n : Nat} {x : List UInt8} {o : GOwner} (hk : (1 : Int) ≤ t.fN) (ho : t.fOwn.l[1]? = some o) (hx : x.length ≤ 50000000000) :
    ref05_Text_L1 t ps (n + 1) x 1 = ref05_Text_L1 t ps n ((x ++ [60]) ++ textO o ps) ((1 + 1 : Nat) : Int) := r5T_step (k := 1) hp hM hk ho hx
theorem r5T_end1 {t : GType} {ps : List (List UInt8)} {n : Nat} {x : List UInt8} (hk : t.fN < (1 : Int)) : ref05_Text_L1 t ps (n + 1) x 1 = some x := r5T_end (k := 1) hk
theorem ref05_Text_eq {t : GType} {ps : List (List UInt8)} (hp : ps.length ≤ 1000) (hM : ∀ o, (textO o ps).length ≤ 10000000000) : ref05_Text t ps = some (textK t ps) := by
  unfold ref05_Text textK
  rw [ref05_Right_eq, obs]
  cases hr : kindR t (ps.length : Int) with
  | false => rfl
  | true =>
    by_cases h0 : t.fKind = 0
    · simp [h0]
    by_cases h1 : t.fKind = 1
    · simp [h1]
    obtain ⟨h2, hn, hN0, hN3, _⟩ := kindR_2 hr h0 h1
    have hcl := nameS_len hn
    rw [if_neg (by simp), if_neg (by simpa using h0), if_neg (by simpa using h1), if_pos rfl, if_neg h0, if_neg h1]
    have hpre : (if (t.fOwn.a0.fKind != 7) = true then
          Option.bind (ref04_Text t.fOwn.a0 ps) fun (y9 : (List UInt8)) =>
          Option.bind (room ((y9.length : Int) + ([32].length : Int)) 1) fun (_ : Unit) =>
          Option.bind (room (((y9 ++ [32]).length : Int) + (t.fClass.length : Int)) 1) fun (_ : Unit) =>
          some ((y9 ++ [32]) ++ t.fClass)
        else
          some t.fClass : Option ((List UInt8))) = some ((if t.fOwn.a0.fKind = 7 then [] else textO t.fOwn.a0 ps ++ [32]) ++ t.fClass) := by
      have := hM t.fOwn.a0
      by_cases h7 : t.fOwn.a0.fKind = 7
      · simp [h7]
      · rw [if_pos (by simpa using h7), if_neg h7, ref04_Text_eq _ _ hp, obs, room_t (by omega) (by simp only [List.length_cons, List.length_nil]; omega), obs, room_t (by omega) (by simp only [List.length_append, List.length_cons, List.length_nil]; omega), obs]
    rw [hpre, obs]
    have hpl : ((if t.fOwn.a0.fKind = 7 then [] else textO t.fOwn.a0 ps ++ [32]) ++ t.fClass).length ≤ 10000000100 := by
      have := hM t.fOwn.a0
      split <;> simp only [List.length_append, List.length_cons, List.length_nil] <;> omega
    generalize (if t.fOwn.a0.fKind = 7 then [] else textO t.fOwn.a0 ps ++ [32]) = pre at *
    obtain ⟨kd, cl, N, ⟨o0, o1, o2, o3⟩⟩ := t
    simp only at h2 hcl hN0 hN3 hpl ⊢
    subst h2
    have m1 := hM o1; have m2 := hM o2; have m3 := hM o3
    have hN4 : N = 0 ∨ N = 1 ∨ N = 2 ∨ N = 3 := by omega
    rcases hN4 with rfl | rfl | rfl | rfl
    · have ho : own { fKind := 2, fClass := cl, fN := 0, fOwn := ⟨o0, o1, o2, o3⟩ } = [o0] := rfl
      rw [ho, r5T_end1 (by simp), obs, if_neg (by simp)]
      simp [tailT]
    · have ho : own { fKind := 2, fClass := cl, fN := 1, fOwn := ⟨o0, o1, o2, o3⟩ } = [o0, o1] := rfl
      rw [ho, r5T_one (o := o1) hp hM (by simp) rfl (by omega), r5T_end (by simp), obs, if_pos (by simp), room_t (by omega) (by simp only [List.length_append, List.length_cons, List.length_nil] at *; omega), obs]
      simp [tailT]
    · have ho : own { fKind := 2, fClass := cl, fN := 2, fOwn := ⟨o0, o1, o2, o3⟩ } = [o0, o1, o2] := rfl
      rw [ho, r5T_one (o := o1) hp hM (by simp) rfl (by omega), r5T_step (o := o2) hp hM (by simp) rfl (by simp only [List.length_append, List.length_cons, List.length_nil] at *; omega), r5T_end (by simp), obs, if_pos (by simp), room_t (by omega) (by simp only [show ¬ (1 + 1 = 1) by omega, if_false, List.length_append, List.length_cons, List.length_nil] at *; omega), obs]
      simp [tailT]
    · have ho : own { fKind := 2, fClass := cl, fN := 3, fOwn := ⟨o0, o1, o2, o3⟩ } = [o0, o1, o2, o3] := rfl
      rw [ho, r5T_one (o := o1) hp hM (by simp) rfl (by omega), r5T_step (o := o2) hp hM (by simp) rfl (by simp only [List.length_append, List.length_cons, List.length_nil] at *; omega), r5T_step (o := o3) hp hM (by simp) rfl (by simp only [show ¬ (1 + 1 = 1) by omega, if_false, List.length_append, List.length_cons, List.length_nil] at *; omega), r5T_end (by simp), obs, if_pos (by simp), room_t (by omega) (by simp only [show ¬ (1 + 1 = 1) by omega, show ¬ (1 + 1 + 1 = 1) by omega, if_false, List.length_append, List.length_cons, List.length_nil] at *; omega), obs]
      simp [tailT]

theorem law05_awake_eq : law05_awake = some true := by kernel_rfl
theorem textO_len {ps : List (List UInt8)} (hn : ∀ p ∈ ps, p.length ≤ 10000000000) (o : GOwner) : (textO o ps).length ≤ 10000000000 := by
  unfold textO
  split
  · split
    · cases h : ps[(o.fN - 1).toNat]? with
      | none => simp
      | some p => exact hn p (List.mem_of_getElem? h)
    · unfold wordO
      repeat (first | (split) | (simp only [List.length_cons, List.length_nil]; omega))
  · simp
theorem mem_lsumS : ∀ (l : List (List UInt8)) (p : List UInt8), p ∈ l → p.length + 1 ≤ lsum (fun s => List.length s + 1) l
  | [], p, h => by cases h
  | x :: l, p, h => by
    rcases List.mem_cons.1 h with rfl | h
    · simp only [lsum]; omega
    · have := mem_lsumS l p h; simp only [lsum]; omega
theorem law05_KindTells_true {a0 : GType} {a1 : Int} {a2 : List (List UInt8)} (_ : goodGType a0) (_ : i64ok a1) (_ : listok strok a2) (hb : uGType a0 + (1 + (lsum (fun s => List.length s + 1) a2 + 1)) ≤ 1048576) : law05_KindTells a0 a1 a2 = some true := by
  have hp : ∀ p ∈ a2, p.length ≤ 10000000000 := fun p hp => by have := mem_lsumS a2 p hp; omega
  unfold law05_KindTells
  rw [law05_awake_eq, obs]
  by_cases hl : (a2.length : Int) > 20
  · rw [decide_eq_true hl, if_pos rfl, obs, if_pos rfl]
  rw [decide_eq_false hl, if_neg (by simp), obs]
  by_cases hc : (a0.fClass.length : Int) > 60
  · rw [decide_eq_true hc, if_pos rfl]
  rw [decide_eq_false hc, if_neg (by simp), kind_Right_eq, obs, ref05_Right_eq, obs, if_pos (by simp), kind_Text_eq (by omega) (textO_len hp), obs, ref05_Text_eq (by omega) (textO_len hp), obs, if_pos (by simp)]


end Go.Proofs.YtkmaieldmcjbfaaDoor
