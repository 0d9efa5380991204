/- A part of the proof that the law ScopeType gives true for every input. -/
import Derived.Test.YtiblofbgibjobaaScopeTypeA2
import Derived.Test.YtiblofbgibjobaaScopeTypeA3
import Derived.Test.YtiblofbgibjobaaScopeTypeT
import Derived.Test.YtiblofbgibjobaaScopeTypeD
/- The plain law. -/
namespace Go.Proofs.Ytiblofbgibjobaa
open Go.RowKit Go.Abs
/-! ### This. -/
def thisL (m : Nat) : List GOwner := ⟨2, 0⟩ :: (List.range m).map fun (k : Nat) => ⟨3, (k : Int) + 1⟩
/-! ### Variables of a method. -/
def mkC (m : Nat) : GClass := { zGClass with fParams := List.replicate m [] }
theorem rT_len {a b : GClass} (h : a.fParams.length = b.fParams.length) : ∀ (n : Nat) (x : List GOwner) (y : Int), raise_This_L1 a n x y = raise_This_L1 b n x y
  | 0, _, _ => rfl
  | n + 1, x, y => by simp only [raise_This_L1, h, rT_len h n]
theorem r15T_len {a b : GClass} (h : a.fParams.length = b.fParams.length) : ∀ (n : Nat) (x : List GOwner) (y : Int), ref15_This_L1 a n x y = ref15_This_L1 b n x y
  | 0, _, _ => rfl
  | n + 1, x, y => by simp only [ref15_This_L1, h, r15T_len h n]
theorem rT_all : ∀ m : Nat, m ≤ 60 → raise_This (mkC m) = some (thisL m) ∧ ref15_This (mkC m) = some (thisL m) := by
  have h : ∀ m : Fin 61, raise_This (mkC m.val) = some (thisL m.val) ∧ ref15_This (mkC m.val) = some (thisL m.val) := by decide +kernel
  exact fun m hm => h ⟨m, by omega⟩
theorem raise_This_eq {c : GClass} (h : c.fParams.length ≤ 60) : raise_This c = some (thisL c.fParams.length) ∧ ref15_This c = some (thisL c.fParams.length) := by
  have hl : c.fParams.length = (mkC c.fParams.length).fParams.length := by simp [mkC]
  obtain ⟨h1, h2⟩ := rT_all _ h
  unfold raise_This at h1 ⊢
  unfold ref15_This at h2 ⊢
  refine ⟨?_, ?_⟩
  · rw [← h1, ← hl]
    simp only [rT_len hl]
  · rw [← h2, ← hl]
    simp only [r15T_len hl]
def zero4 : A4 GOwner := ⟨zGOwner, zGOwner, zGOwner, zGOwner⟩
def thisT (c : GClass) : GType := { fKind := 2, fClass := c.fName, fN := if c.fParams.length < 3 then (c.fParams.length : Int) else 3, fOwn := A4.cp zero4 (thisL c.fParams.length) }
theorem thisL_len (m : Nat) : (thisL m).length = m + 1 := by simp [thisL]
theorem scope_This_eq {c : GClass} (h : c.fParams.length ≤ 60) : scope_This c = some (thisT c) := by
  unfold scope_This thisT
  rw [(raise_This_eq h).1, obs]
  congr 2
  rw [List.length_map, thisL_len]
  by_cases h3 : c.fParams.length < 3
  · rw [if_pos h3, show Nat.min (c.fParams.length + 1) 4 = c.fParams.length + 1 from Nat.min_eq_left (by omega), show ((c.fParams.length + 1 : Nat) : Int) - 1 = (c.fParams.length : Int) by omega, w64 (by omega) (by omega)]; rfl
  · rw [if_neg h3, show Nat.min (c.fParams.length + 1) 4 = 4 from Nat.min_eq_right (by omega)]; rfl
theorem thisL_3 (m : Nat) : ∃ r, thisL (m + 3) = ⟨2, 0⟩ :: ⟨3, 1⟩ :: ⟨3, 2⟩ :: ⟨3, 3⟩ :: r := by
  refine ⟨(thisL (m + 3)).drop 4, ?_⟩
  simp only [thisL, List.range_succ_eq_map, List.map_cons, List.map_map, List.drop_succ_cons, List.drop_zero]
  rfl
theorem ref18_This_eq {c : GClass} (h : c.fParams.length ≤ 60) : ref18_This c = some (thisT c) := by
  unfold ref18_This thisT
  rw [(raise_This_eq h).2, obs]
  have hm : c.fParams.length = 0 ∨ c.fParams.length = 1 ∨ c.fParams.length = 2 ∨ 3 ≤ c.fParams.length := by omega
  rcases hm with e | e | e | e
  · rw [e]; rfl
  · rw [e]; rfl
  · rw [e]; rfl
  · obtain ⟨k, hk⟩ : ∃ k, c.fParams.length = k + 3 := ⟨c.fParams.length - 3, by omega⟩
    obtain ⟨r, hr⟩ := thisL_3 k
    rw [hk, hr, if_neg (by omega), if_neg (by omega)]
    rfl
def varsS (m : GMethod) : List GVar := m.fParams ++ m.fLocals
theorem ref12_Vars_eq {m : GMethod} (h1 : m.fParams.length ≤ 100) (h2 : m.fLocals.length ≤ 100) : ref12_Vars m = some (varsS m) := by
  unfold ref12_Vars varsS
  rw [room_ok (by simp; omega), obs, room_ok (by simp; omega), obs]
  rfl
theorem arena_Vars_eq {m : GMethod} (h1 : m.fParams.length ≤ 100) (h2 : m.fLocals.length ≤ 100) : arena_Vars m = some (varsS m) := by
  unfold arena_Vars varsS slices_Concat_api_Var
  generalize m.fParams = p at *
  generalize m.fLocals = l at *
  have hL2 : ([p, l] : List (List GVar)).length = 2 := rfl
  have e1 : slices_Concat_api_Var_L1 [p, l] (((([p, l] : List (List GVar)).length : Int) - (0)).toNat + 1) 0 0 = some ((p.length : Int) + (l.length : Int)) := by
    have w1 : w_i64 (0 + (p.length : Int)) = (p.length : Int) := by rw [w64 (by omega) (by omega)]; omega
    have w2 : w_i64 ((p.length : Int) + (l.length : Int)) = (p.length : Int) + (l.length : Int) := w64 (by omega) (by omega)
    have i0 : idx [p, l] 0 = some p := rfl
    have i1 : idx [p, l] (w_i64 (0 + 1)) = some l := rfl
    have k2 : w_i64 (w_i64 (0 + 1) + 1) = 2 := rfl
    have k1 : w_i64 (0 + 1) = 1 := rfl
    have n0 : ¬ ((p.length : Int) < 0) := by omega
    have n1 : ¬ ((p.length : Int) + (l.length : Int) < 0) := by omega
    show slices_Concat_api_Var_L1 [p, l] (2 + 1) 0 0 = _
    simp only [slices_Concat_api_Var_L1, hL2]
    rw [if_pos (by decide), i0, obs, w1, if_neg (by simp), if_pos (by decide), i1, obs, w2, if_neg (by simpa using n1), if_neg (by decide)]
  have e2 : slices_Grow_api_Var ((p.length : Int) + (l.length : Int)) = some [] := by
    unfold slices_Grow_api_Var
    rw [if_neg (by simp; omega), show w_i64 (0 - 0) = 0 from rfl, Int.sub_zero, w64 (by omega) (by omega)]
    by_cases h0 : (p.length : Int) + (l.length : Int) > 0
    · have hz : zerOk ((p.length : Int) + (l.length : Int)) 120 = some () := by unfold zerOk; rw [if_pos ⟨by omega, by omega⟩]
      have hc : cutL (List.replicate ((p.length : Int) + (l.length : Int)).toNat zGVar) 0 0 = some [] := by
        unfold cutL
        rw [if_pos ⟨by omega, by omega, by simp; omega⟩]; simp
      rw [if_pos (by simpa using h0), hz, obs, hc, obs]
    · rw [if_neg (by simpa using h0)]
  have e3 : slices_Concat_api_Var_L2 [p, l] (((([p, l] : List (List GVar)).length : Int) - (0)).toNat + 1) [] 0 = some (p ++ l) := by
    have i0 : idx [p, l] 0 = some p := rfl
    have i1 : idx [p, l] (w_i64 (0 + 1)) = some l := rfl
    show slices_Concat_api_Var_L2 [p, l] (2 + 1) [] 0 = _
    simp only [slices_Concat_api_Var_L2, hL2]
    rw [if_pos (by decide), i0, obs, room_ok (by simp; omega), obs, if_pos (by decide), i1, obs, room_ok (by simp; omega), obs, if_neg (by decide)]
    simp
  rw [e1, obs, e2, obs, e3, obs, obs]
def isV (name : List UInt8) (v : GVar) : Bool := v.fName == name
def placeS (m : GMethod) (name : List UInt8) : Int := match (varsS m).findIdx? (isV name) with | some i => (i : Int) | none => -1
theorem idxV {l : List GVar} (hl : l.length ≤ 1000) (name : List UInt8) : slices_IndexFunc_api_Var l (fun (z4 : GVar) => scope_Place_1 z4 name) = some (match l.findIdx? (isV name) with | some i => (i : Int) | none => -1) := by
  unfold slices_IndexFunc_api_Var
  rw [findL (slices_IndexFunc_api_Var_L1 l (fun (z4 : GVar) => scope_Place_1 z4 name)) (b := isV name) (by omega) (fun n x => by rw [slices_IndexFunc_api_Var_L1]; rfl), obs]
  cases l.findIdx? (isV name) <;> rfl
theorem scope_Place_eq {m : GMethod} (h1 : m.fParams.length ≤ 100) (h2 : m.fLocals.length ≤ 100) (name : List UInt8) : scope_Place m name = some (placeS m name) := by
  unfold scope_Place placeS varsS
  rw [idxV (by omega), obs, idxV (by omega), List.findIdx?_append]
  cases hp : m.fParams.findIdx? (isV name) with
  | some i => simp
  | none =>
    cases hl : m.fLocals.findIdx? (isV name) with
    | none => simp
    | some j =>
      have := (List.findIdx?_eq_some_iff_getElem.1 hl).1
      have e1 : ¬ ((-1 : Int) ≥ 0) := by omega
      have e2 : ¬ ((j : Int) < 0) := by omega
      simp only [decide_eq_false e1, decide_eq_false e2, Bool.false_eq_true, if_false, obs]
      rw [w64 (by omega) (by omega)]
      simp; omega
theorem ref18_Place_eq {m : GMethod} (h1 : m.fParams.length ≤ 100) (h2 : m.fLocals.length ≤ 100) (name : List UInt8) : ref18_Place m name = some (placeS m name) := by
  unfold ref18_Place placeS
  have hl : (varsS m).length ≤ 1000 := by unfold varsS; simp; omega
  rw [ref12_Vars_eq h1 h2, obs, findL (ref18_Place_L1 name (varsS m)) (b := isV name) (by omega) (fun n x => by rw [ref18_Place_L1]; rfl), obs]
  cases (varsS m).findIdx? (isV name) <;> rfl
theorem placeS_lt {m : GMethod} {name : List UInt8} (h : ¬ placeS m name < 0) : ∃ v, idx (varsS m) (placeS m name) = some v := by
  unfold placeS at *
  cases hf : (varsS m).findIdx? (isV name) with
  | none => rw [hf] at h; simp at h
  | some i =>
    have hlt := (List.findIdx?_eq_some_iff_getElem.1 hf).1
    exact ⟨_, idx_lt hlt⟩
theorem scope_Type_eq {c : GClass} {m : GMethod} (hc : c.fParams.length ≤ 60) (h1 : m.fParams.length ≤ 100) (h2 : m.fLocals.length ≤ 100) (name : List UInt8) : ∃ r, scope_Type c m name = some r ∧ ref18_Type c m name = some r := by
  unfold scope_Type ref18_Type
  rw [scope_This_eq hc, ref18_This_eq hc, scope_Place_eq h1 h2, ref18_Place_eq h1 h2, arena_Vars_eq h1 h2, ref12_Vars_eq h1 h2]
  by_cases hn : (name == [116, 104, 105, 115]) = true
  · rw [if_pos hn]; exact ⟨_, rfl, rfl⟩
  · rw [if_neg hn]; simp only [obs]
    by_cases hp : placeS m name < 0
    · rw [if_pos (by simpa using hp)]; exact ⟨_, rfl, rfl⟩
    · obtain ⟨v, hv⟩ := placeS_lt hp
      rw [if_neg (by simpa using hp), hv]; exact ⟨_, rfl, rfl⟩
theorem law18_great_eq (m : GMethod) : law18_great m = some (decide (m.fParams.length > 60) || decide (m.fLocals.length > 60)) := by
  unfold law18_great
  by_cases h : m.fParams.length > 60
  · have : (m.fParams.length : Int) > 60 := by omega
    simp [h, this]
  · have : ¬ (m.fParams.length : Int) > 60 := by omega
    simp [h, this]
    omega
theorem law18_awake_eq : law18_awake = some true := by kernel_rfl

theorem bGType_refl (t : GType) : bGType t t = true := by simp [bGType]
theorem law18_ScopeType_true {a0 : GClass} {a1 : GMethod} {a2 : List UInt8} (_ : goodGClass a0) (_ : goodGMethod a1) (_ : strok a2) : law18_ScopeType a0 a1 a2 = some true := by
  unfold law18_ScopeType
  rw [law18_great_eq, law18_awake_eq, obs, obs]
  by_cases h1 : a1.fParams.length > 60
  · simp [h1, obs]
  by_cases h2 : a1.fLocals.length > 60
  · simp [h2, obs]
  by_cases hc : (a0.fParams.length : Int) > 60
  · simp [h1, h2, hc, obs]
  obtain ⟨r, e1, e2⟩ := scope_Type_eq (c := a0) (m := a1) (by omega) (by omega) (by omega) a2
  rw [e1, e2, scope_Place_eq (by omega) (by omega), ref18_Place_eq (by omega) (by omega), scope_This_eq (by omega), ref18_This_eq (by omega)]
  simp [h1, h2, hc, obs, bGType_refl]


end Go.Proofs.Ytiblofbgibjobaa
