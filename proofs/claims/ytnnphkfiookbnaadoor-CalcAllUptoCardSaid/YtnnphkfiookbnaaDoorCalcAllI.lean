/- A part of the proof that the law CalcAll gives true for every input. -/
import Derived.Test.YtnnphkfiookbnaaDoorCalcAllT
/- What the iterators yield. -/
namespace Go.Proofs.YtnnphkfiookbnaaDoor
open Go.RowKit Go.Abs














theorem itR_back_api_Expr_len (l : List GExpr) : ∀ m, m ≤ l.length → (itR_back_api_Expr_n l m).length = m
  | 0, _ => rfl
  | m + 1, h => by
    have hm : l[m]? = some l[m] := List.getElem?_eq_getElem (by omega)
    simp only [itR_back_api_Expr_n, hm, List.length_cons, itR_back_api_Expr_len l m (by omega)]
theorem itR_back_api_Expr_L {l : List GExpr} {rows : List (Int × GExpr)} {sp : Nat} (hl : l.length < 4611686018427387904) (hrl : rows.length = l.length) : ∀ (m k fuel : Nat), k + m = l.length → m + 1 ≤ fuel → rows.drop k = itR_back_api_Expr_n l m → k ≤ sp →
    ∃ r, slices_Backward_api_Expr_1_L1 l sp rows fuel k ((m : Int) - 1) = some r ∧ Ctl.elim r (fun v => v) (fun v => v) = min (sp + 1) rows.length
  | m, k, 0, _, hf, _, _ => by omega
  | 0, k, fuel + 1, hk, _, _, hs => by
    refine ⟨.next k, ?_, ?_⟩
    · simp only [slices_Backward_api_Expr_1_L1]
      rw [if_neg (by simp)]
    · show k = _
      omega
  | m + 1, k, fuel + 1, hk, hf, hd, hs => by
    have hm : m < l.length := by omega
    have hmg : l[m]? = some l[m] := List.getElem?_eq_getElem hm
    simp only [itR_back_api_Expr_n, hmg] at hd
    have h1 : rows[k]? = some ((m : Int), l[m]) := by
      have := congrArg (fun z => z[0]?) hd
      simpa using this
    have h2 : rows.drop (k + 1) = itR_back_api_Expr_n l m := by
      have := congrArg (fun z => z.drop 1) hd
      simpa using this
    simp only [slices_Backward_api_Expr_1_L1]
    have e : (((m + 1 : Nat) : Int) - 1) = (m : Int) := by omega
    rw [e, if_pos (by simp), idx_lt hm]
    simp only [obs, yck_ok h1 hs]
    by_cases hsp : k = sp
    · rw [if_pos (by simp [hsp])]
      refine ⟨_, rfl, ?_⟩
      show k + 1 = _
      omega
    · rw [if_neg (by simpa using hsp), w64 (by omega) (by omega)]
      exact itR_back_api_Expr_L hl hrl m (k + 1) fuel (by omega) (by omega) h2 (by omega)
theorem itR_back_api_Expr_ok {l : List GExpr} {rows : List (Int × GExpr)} (h : itR_back_api_Expr l = some rows) : ∀ sp, slices_Backward_api_Expr_1 rows sp l = some (min (sp + 1) rows.length) := by
  intro sp
  unfold itR_back_api_Expr at h
  split at h
  · rename_i hl
    cases h
    unfold slices_Backward_api_Expr_1
    rw [w64 (by omega) (by omega)]
    have hlen := itR_back_api_Expr_len l l.length (Nat.le_refl _)
    obtain ⟨r, h1, h2⟩ := itR_back_api_Expr_L (sp := sp) hl hlen l.length 0 ((((l.length : Int) - 1 : Int) - (0)).toNat + 2) (by omega) (by omega) (by simp) (by omega)
    rw [h1]
    cases r with
    | stop v => simpa [obs, Ctl.elim] using h2
    | next v => simpa [obs, Ctl.elim] using h2
  · cases h


theorem preE_eq (x : GExpr) : preE x = x :: preEL x.fKids := by cases x; simp only [preE]
theorem mE_eq (x : GExpr) : mGExpr x = 1 + mLGExpr x.fKids := by cases x; simp only [mGExpr]
theorem preEL_app : ∀ (a b : List GExpr), preEL (a ++ b) = preEL a ++ preEL b
  | [], b => rfl
  | x :: a, b => by simp only [List.cons_append, preEL, preEL_app a b, List.append_assoc]
theorem mEL_app : ∀ (a b : List GExpr), mLGExpr (a ++ b) = mLGExpr a + mLGExpr b
  | [], b => by simp [mLGExpr]
  | x :: a, b => by simp only [List.cons_append, mLGExpr, mEL_app a b]; omega
theorem len_mEL : ∀ (l : List GExpr), l.length ≤ mLGExpr l
  | [] => by simp
  | x :: l => by have := len_mEL l; have := mE_eq x; simp only [List.length_cons, mLGExpr]; omega
theorem all_push (kids : List GExpr) : ∀ (m : Nat) (stk : List GExpr), m ≤ kids.length → stk.length + m ≤ 1000000 → runs expr_all_1_B2 (itR_back_api_Expr_n kids m) stk = some (.next (stk ++ (kids.take m).reverse))
  | 0, stk, _, _ => by simp [itR_back_api_Expr_n, runs]
  | m + 1, stk, h, hl => by
    have hm : kids[m]? = some kids[m] := List.getElem?_eq_getElem (by omega)
    simp only [itR_back_api_Expr_n, hm, runs, expr_all_1_B2]
    have hi : idx (stk ++ ([zGExpr] : List GExpr)) (stk.length : Int) = some zGExpr := by
      rw [idx_lt (by simp)]; simp
    have hs : (stk ++ ([zGExpr] : List GExpr)).set ((stk.length : Int)).toNat kids[m] = stk ++ [kids[m]] := by
      rw [Int.toNat_natCast, List.set_append]; simp
    rw [room_ok (by simp; omega), obs, hi, obs, hs, obs]
    simp only [Ctl.elim]
    rw [all_push kids m _ (by omega) (by simp; omega), List.take_succ_eq_append_getElem (by omega), List.reverse_append]
    simp
theorem all_L {rows : List GExpr} {sp : Nat} : ∀ (fuel k : Nat) (r : List GExpr), rows.drop k = preEL r → k ≤ sp → k ≤ rows.length → mLGExpr r < fuel → mLGExpr r ≤ 1000000 →
    ∃ res, expr_all_1_L1 sp rows fuel k r.reverse = some res ∧ Ctl.elim res (fun v => v) (fun v => v) = min (sp + 1) rows.length
  | 0, k, r, _, _, _, h, _ => by omega
  | fuel + 1, k, [], hd, hk, hkr, _, _ => by
    have hlen : rows.length ≤ k := by have := congrArg List.length hd; simp [preEL] at this; omega
    refine ⟨.next k, by simp [expr_all_1_L1], ?_⟩
    show k = _
    omega
  | fuel + 1, k, x :: r, hd, hk, hkr, hf, hM => by
    have hlm := len_mEL (x :: r)
    have hmx := mE_eq x
    simp only [mLGExpr] at hf hM hlm
    simp only [preEL, preE_eq x, List.cons_append] at hd
    have h1 : rows[k]? = some x := by
      have := congrArg (fun z => z[0]?) hd
      simpa using this
    have h2 : rows.drop (k + 1) = preEL x.fKids ++ preEL r := by
      have := congrArg (fun z => z.drop 1) hd
      simpa using this
    have hkl := (List.getElem?_eq_some_iff.1 h1).1
    simp only [List.length_cons] at hlm
    simp only [expr_all_1_L1, List.reverse_cons]
    have hlr : (r.reverse ++ [x]).length = r.length + 1 := by simp
    have hw : w_i64 (((r.reverse ++ [x]).length : Int) - 1) = (r.length : Int) := by rw [hlr, w64 (by omega) (by omega)]; omega
    have hi : idx (r.reverse ++ [x]) (r.length : Int) = some x := by rw [idx_lt (by simp)]; simp
    have hc : cutL (r.reverse ++ [x]) 0 (r.length : Int) = some r.reverse := by
      unfold cutL
      rw [if_pos ⟨by omega, by omega, by simp; omega⟩]
      simp
    rw [if_pos (by simp <;> omega), hw, hi, obs, hc, obs, yck_ok h1 hk, obs]
    by_cases hsp : k = sp
    · refine ⟨.stop (k + 1), by simp [hsp], ?_⟩
      show k + 1 = _
      omega
    · have hkids := len_mEL x.fKids
      have hr2 := len_mEL r
      have hb : itR_back_api_Expr x.fKids = some (itR_back_api_Expr_n x.fKids x.fKids.length) := by unfold itR_back_api_Expr; rw [if_pos (by omega)]
      rw [if_neg (by simpa using hsp)]
      unfold slices_Backward_api_Expr
      rw [obs, hb, obs, all_push x.fKids x.fKids.length r.reverse (Nat.le_refl _) (by rw [List.length_reverse]; omega), obs]
      simp only [Ctl.elim, List.take_length]
      rw [← List.reverse_append]
      exact all_L fuel (k + 1) (x.fKids ++ r) (by rw [h2, preEL_app]) (by omega) (by omega) (by rw [mEL_app]; omega) (by rw [mEL_app]; omega)
theorem itR_all_ok {e : GExpr} {rows : List GExpr} (h : itR_all e = some rows) : ∀ sp, expr_all_1 rows sp e = some (min (sp + 1) rows.length) := by
  intro sp
  unfold itR_all at h
  split at h
  · rename_i hm
    cases h
    obtain ⟨r, h1, h2⟩ := all_L (rows := preE e) (sp := sp) (mGExpr e + 2) 0 [e] (by simp [preEL]) (by omega) (by omega) (by simp [mLGExpr]) (by simpa [mLGExpr] using hm)
    unfold expr_all_1
    rw [show ([e] : List GExpr) = [e].reverse from rfl, h1]
    cases r with
    | stop v => simpa [obs, Ctl.elim] using h2
    | next v => simpa [obs, Ctl.elim] using h2
  · cases h































































end Go.Proofs.YtnnphkfiookbnaaDoor
