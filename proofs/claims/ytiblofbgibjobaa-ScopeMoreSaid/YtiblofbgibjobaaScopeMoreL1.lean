/- A part of the proof that the law ScopeMore gives true for every input. -/
import Derived.Test.YtiblofbgibjobaaScopeMoreA2
import Derived.Test.YtiblofbgibjobaaScopeMoreA3
import Derived.Test.YtiblofbgibjobaaScopeMoreT
import Derived.Test.YtiblofbgibjobaaScopeMoreD
/- The plain law. -/
namespace Go.Proofs.Ytiblofbgibjobaa
open Go.RowKit Go.Abs
def varsS (m : GMethod) : List GVar := m.fParams ++ m.fLocals
theorem arena_Vars_eq {m : GMethod} (h1 : m.fParams.length ≤ 100) (h2 : m.fLocals.length ≤ 100) : arena_Vars m = some (varsS m) := by
  unfold arena_Vars varsS slices_Concat_api_Var
  generalize m.fParams = p at *
  generalize m.fLocals = l at *
  have hL2 : ([p, l] : List (List GVar)).length = 2 := rfl
  have e1 : slices_Concat_api_Var_L1 [p, l] (((([p, l] : List (List GVar)).length : Int) - (0)).toNat + 1) 0 0 = some ((p.length : Int) + (l.length : Int)) := by
    have w1 : w_i64 (0 + (p.length : Int)) = (p.length : Int) := by rw [w64 (by omega) (by omega)]; omega
    have w2 : w_i64 ((p.length : Int) + (l.length : Int)) = (p.length : Int) + (l.length : Int) := w64 (by omega) (by omega)
    have i0 : idx [p, l] 0 = some p := rfl
    have i1 : idx [p, l] (w_i64 (0 + 1)) = some l := rfl
    have k2 : w_i64 (w_i64 (0 + 1) + 1) = 2 := rfl
    have k1 : w_i64 (0 + 1) = 1 := rfl
    have n0 : ¬ ((p.length : Int) < 0) := by omega
    have n1 : ¬ ((p.length : Int) + (l.length : Int) < 0) := by omega
    show slices_Concat_api_Var_L1 [p, l] (2 + 1) 0 0 = _
    simp only [slices_Concat_api_Var_L1, hL2]
    rw [if_pos (by decide), i0, obs, w1, if_neg (by simp), if_pos (by decide), i1, obs, w2, if_neg (by simpa using n1), if_neg (by decide)]
  have e2 : slices_Grow_api_Var ((p.length : Int) + (l.length : Int)) = some [] := by
    unfold slices_Grow_api_Var
    rw [if_neg (by simp; omega), show w_i64 (0 - 0) = 0 from rfl, Int.sub_zero, w64 (by omega) (by omega)]
    by_cases h0 : (p.length : Int) + (l.length : Int) > 0
    · have hz : zerOk ((p.length : Int) + (l.length : Int)) 120 = some () := by unfold zerOk; rw [if_pos ⟨by omega, by omega⟩]
      have hc : cutL (List.replicate ((p.length : Int) + (l.length : Int)).toNat zGVar) 0 0 = some [] := by
        unfold cutL
        rw [if_pos ⟨by omega, by omega, by simp; omega⟩]; simp
      rw [if_pos (by simpa using h0), hz, obs, hc, obs]
    · rw [if_neg (by simpa using h0)]
  have e3 : slices_Concat_api_Var_L2 [p, l] (((([p, l] : List (List GVar)).length : Int) - (0)).toNat + 1) [] 0 = some (p ++ l) := by
    have i0 : idx [p, l] 0 = some p := rfl
    have i1 : idx [p, l] (w_i64 (0 + 1)) = some l := rfl
    show slices_Concat_api_Var_L2 [p, l] (2 + 1) [] 0 = _
    simp only [slices_Concat_api_Var_L2, hL2]
    rw [if_pos (by decide), i0, obs, room_ok (by simp; omega), obs, if_pos (by decide), i1, obs, room_ok (by simp; omega), obs, if_neg (by decide)]
    simp
  rw [e1, obs, e2, obs, e3, obs, obs]
def isV (name : List UInt8) (v : GVar) : Bool := v.fName == name
def placeS (m : GMethod) (name : List UInt8) : Int := match (varsS m).findIdx? (isV name) with | some i => (i : Int) | none => -1
theorem idxV {l : List GVar} (hl : l.length ≤ 1000) (name : List UInt8) : slices_IndexFunc_api_Var l (fun (z4 : GVar) => scope_Place_1 z4 name) = some (match l.findIdx? (isV name) with | some i => (i : Int) | none => -1) := by
  unfold slices_IndexFunc_api_Var
  rw [findL (slices_IndexFunc_api_Var_L1 l (fun (z4 : GVar) => scope_Place_1 z4 name)) (b := isV name) (by omega) (fun n x => by rw [slices_IndexFunc_api_Var_L1]; rfl), obs]
  cases l.findIdx? (isV name) <;> rfl
theorem scope_Place_eq {m : GMethod} (h1 : m.fParams.length ≤ 100) (h2 : m.fLocals.length ≤ 100) (name : List UInt8) : scope_Place m name = some (placeS m name) := by
  unfold scope_Place placeS varsS
  rw [idxV (by omega), obs, idxV (by omega), List.findIdx?_append]
  cases hp : m.fParams.findIdx? (isV name) with
  | some i => simp
  | none =>
    cases hl : m.fLocals.findIdx? (isV name) with
    | none => simp
    | some j =>
      have := (List.findIdx?_eq_some_iff_getElem.1 hl).1
      have e1 : ¬ ((-1 : Int) ≥ 0) := by omega
      have e2 : ¬ ((j : Int) < 0) := by omega
      simp only [decide_eq_false e1, decide_eq_false e2, Bool.false_eq_true, if_false, obs]
      rw [w64 (by omega) (by omega)]
      simp; omega
theorem placeS_lt {m : GMethod} {name : List UInt8} (h : ¬ placeS m name < 0) : ∃ v, idx (varsS m) (placeS m name) = some v := by
  unfold placeS at *
  cases hf : (varsS m).findIdx? (isV name) with
  | none => rw [hf] at h; simp at h
  | some i =>
    have hlt := (List.findIdx?_eq_some_iff_getElem.1 hf).1
    exact ⟨_, idx_lt hlt⟩
theorem law18_great_eq (m : GMethod) : law18_great m = some (decide (m.fParams.length > 60) || decide (m.fLocals.length > 60)) := by
  unfold law18_great
  by_cases h : m.fParams.length > 60
  · have : (m.fParams.length : Int) > 60 := by omega
    simp [h, this]
  · have : ¬ (m.fParams.length : Int) > 60 := by omega
    simp [h, this]
    omega
theorem law18_awake_eq : law18_awake = some true := by kernel_rfl

theorem scope_Type_v {c : GClass} {m : GMethod} (h1 : m.fParams.length ≤ 100) (h2 : m.fLocals.length ≤ 100) {name : List UInt8} (hn : ¬ (name == [116, 104, 105, 115]) = true) (hp : ¬ placeS m name < 0) {v : GVar} (hv : idx (varsS m) (placeS m name) = some v) : scope_Type c m name = some (v.fType, true) := by
  unfold scope_Type
  rw [if_neg hn, scope_Place_eq h1 h2, arena_Vars_eq h1 h2, obs, if_neg (by simpa using hp), obs, hv, obs]
theorem place_lt (m : GMethod) (name : List UInt8) : -1 ≤ placeS m name ∧ placeS m name < ((varsS m).length : Int) := by
  unfold placeS
  cases h : (varsS m).findIdx? (isV name) with
  | none => simp; omega
  | some i =>
    have := (List.findIdx?_eq_some_iff_getElem.1 h).1
    simp; omega
theorem place_more {m M : GMethod} {v : GVar} (hM : varsS M = varsS m ++ [v]) (name : List UInt8) :
    (placeS m name ≥ 0 → placeS M name = placeS m name) ∧ (placeS m name < 0 → v.fName = name → placeS M name = ((varsS m).length : Int)) ∧ (placeS m name < 0 → v.fName ≠ name → placeS M name = placeS m name) := by
  unfold placeS
  rw [hM, List.findIdx?_append]
  cases h : (varsS m).findIdx? (isV name) with
  | some i => refine ⟨fun _ => by simp, fun h => by simp at h; omega, fun h => by simp at h; omega⟩
  | none =>
    refine ⟨fun h => by simp at h, fun _ e => ?_, fun _ e => ?_⟩
    · simp [List.findIdx?_cons, isV, e]
    · simp [List.findIdx?_cons, isV, e]

theorem start_L {l : List GVar} (hl : l.length ≤ 1000) : ∀ (n k : Nat) (s : List GVal), n + k = l.length + 1 → k ≤ l.length → s.length = k → ∃ S, scope_Start_L1 l n s (k : Int) = some S ∧ S.length = l.length
  | 0, k, s, h, hk, _ => by omega
  | n + 1, k, s, h, hk, hs => by
    rw [scope_Start_L1]
    by_cases hlt : k < l.length
    · rw [if_pos (by simpa using hlt), idx_lt hlt, obs, room_ok (by simp; omega), obs, w64_succ hlt (by omega)]
      exact start_L hl n (k + 1) _ (by omega) (by omega) (by simp; omega)
    · rw [if_neg (by simpa using hlt)]
      exact ⟨s, rfl, by omega⟩
theorem scope_Start_len {m : GMethod} (h1 : m.fParams.length ≤ 100) (h2 : m.fLocals.length ≤ 100) : ∃ S, scope_Start m = some S ∧ S.length = (varsS m).length := by
  have hl : (varsS m).length ≤ 1000 := by unfold varsS; simp; omega
  obtain ⟨S, a, b⟩ := start_L hl ((((varsS m).length : Int) - (0)).toNat + 1) 0 [] (by omega) (by omega) rfl
  refine ⟨S, ?_, b⟩
  unfold scope_Start
  rw [arena_Vars_eq h1 h2, obs, show scope_Start_L1 (varsS m) ((((varsS m).length : Int) - (0)).toNat + 1) [] 0 = _ from a]; rfl
theorem bGType_refl (t : GType) : bGType t t = true := by simp [bGType]
theorem law18_ScopeMore_true {a0 : GMethod} {a1 : GVar} {a2 : List UInt8} (_ : goodGMethod a0) (_ : goodGVar a1) (_ : strok a2) : law18_ScopeMore a0 a1 a2 = some true := by
  unfold law18_ScopeMore
  rw [law18_great_eq, law18_awake_eq, obs]
  by_cases g1 : a0.fParams.length > 60
  · simp [g1, obs]
  by_cases g2 : a0.fLocals.length > 60
  · simp [g2, obs]
  by_cases hv : (a1.fName == [116, 104, 105, 115]) = true
  · simp only [hv, if_true, obs]; simp [obs]
  by_cases hn : (a2 == [116, 104, 105, 115]) = true
  · simp only [hn, hv, if_true, obs]; simp [obs]
  rw [if_neg (by simp; omega), if_neg hv, obs, if_neg hn, room_ok (by simp; omega), obs, room_ok (by simp; omega), obs]
  generalize hM : (({ fName := a0.fName, fPure := a0.fPure, fRet := ({ fKind := a0.fRet.fKind, fClass := a0.fRet.fClass, fN := a0.fRet.fN, fOwn := (⟨({ fKind := a0.fRet.fOwn.a0.fKind, fN := a0.fRet.fOwn.a0.fN } : GOwner), ({ fKind := a0.fRet.fOwn.a1.fKind, fN := a0.fRet.fOwn.a1.fN } : GOwner), ({ fKind := a0.fRet.fOwn.a2.fKind, fN := a0.fRet.fOwn.a2.fN } : GOwner), ({ fKind := a0.fRet.fOwn.a3.fKind, fN := a0.fRet.fOwn.a3.fN } : GOwner)⟩ : A4 GOwner) } : GType), fParams := a0.fParams, fLocals := ((([] : List GVar) ++ a0.fLocals) ++ [a1]), fBody := a0.fBody, fAt := a0.fAt } : GMethod)) = M
  have hMv : varsS M = varsS a0 ++ [a1] := by rw [← hM]; simp [varsS]
  have m1 : M.fParams.length ≤ 100 := by rw [← hM]; show a0.fParams.length ≤ 100; omega
  have m2 : M.fLocals.length ≤ 100 := by rw [← hM]; simp; omega
  have hlen : ((varsS a0).length : Int) = (a0.fParams.length : Int) + (a0.fLocals.length : Int) := by simp [varsS]
  have hw : w_i64 ((a0.fParams.length : Int) + (a0.fLocals.length : Int)) = ((varsS a0).length : Int) := by rw [w64 (by omega) (by omega), hlen]
  have hw2 : w_i64 (((varsS a0).length : Int) + 1) = ((varsS a0).length : Int) + 1 := w64 (by omega) (by omega)
  obtain ⟨S, hS, hSl⟩ := scope_Start_len m1 m2
  rw [hMv] at hSl
  have hSl : (S.length : Int) = ((varsS a0).length : Int) + 1 := by rw [hSl]; simp
  have p1 := place_more hMv a1.fName
  have p2 := place_more hMv a2
  obtain ⟨k1, k2⟩ := place_lt a0 a2
  obtain ⟨l1, l2⟩ := place_lt a0 a1.fName
  have hge : ¬ placeS M a1.fName < 0 := by
    by_cases hp : placeS a0 a1.fName ≥ 0
    · rw [p1.1 hp]; omega
    · rw [p1.2.1 (by omega) rfl]; omega
  obtain ⟨v, hvv⟩ := placeS_lt hge
  have hfin : (if (a2 == a1.fName) = true then some true else Option.bind (scope_Place M a2) fun (y74 : Int) => if (y74 == placeS a0 a2) = true then some true else some false) = some true := by
    by_cases e : (a2 == a1.fName) = true
    · rw [if_pos e]
    · have e' : a1.fName ≠ a2 := fun h => e (by simp [h])
      have : placeS M a2 = placeS a0 a2 := by
        by_cases hp : placeS a0 a2 ≥ 0
        · exact p2.1 hp
        · exact p2.2.2 (by omega) e'
      rw [if_neg e, scope_Place_eq m1 m2, obs, this]; simp
  rw [scope_Place_eq (m := a0) (by omega) (by omega), scope_Place_eq m1 m2, scope_Type_v m1 m2 hv hge hvv, scope_Place_eq (m := a0) (by omega) (by omega)]
  simp only [obs, hw, hw2, hS, hSl]
  have q1 : decide (placeS a0 a2 < -1) = false := decide_eq_false (by omega)
  have q2 : decide (placeS a0 a2 ≥ ((varsS a0).length : Int)) = false := decide_eq_false (by omega)
  by_cases hp : placeS a0 a1.fName ≥ 0
  · have hq := p1.1 hp
    have hlt : decide (placeS a0 a1.fName < 0) = false := decide_eq_false (by omega)
    simp only [hp, decide_true, if_true, hq, bne_self_eq_false, Bool.false_eq_true, if_false, hlt, Bool.not_true, q1, q2, obs]
    exact hfin
  · have hq := p1.2.1 (by omega) rfl
    have hva : v = a1 := by
      rw [hq, hMv, idx_nat] at hvv
      simpa using hvv.symm
    subst hva
    have hlt : decide (placeS a0 v.fName < 0) = true := decide_eq_true (by omega)
    simp only [hp, decide_false, if_true, hq, bne_self_eq_false, Bool.false_eq_true, if_false, hlt, bGType_refl, Bool.not_true, q1, q2, obs]
    exact hfin


end Go.Proofs.Ytiblofbgibjobaa
