/- A part of the proof that the law KindWith gives true for every input. -/
import Derived.Test.YtkmaieldmcjbfaaDoorKindWithA2
import Derived.Test.YtkmaieldmcjbfaaDoorKindWithT
import Derived.Test.YtkmaieldmcjbfaaDoorKindWithA3
import Derived.Test.YtkmaieldmcjbfaaDoorKindWithD
/- The plain law. -/
namespace Go.Proofs.YtkmaieldmcjbfaaDoor
open Go.RowKit Go.Abs
/-! ### The owners of a type. -/
/-- How many owners stand behind the class. -/
def cnt3 (n : Int) : Nat := if n ≤ 0 then 0 else if 3 ≤ n then 3 else n.toNat
theorem cnt3_le (n : Int) : cnt3 n ≤ 3 := by unfold cnt3; split; omega; split; omega; omega
theorem cnt3_ite (n : Int) : (if (if 3 < n then 3 else n) > 0 then (if 3 < n then 3 else n) else 0) = ((cnt3 n : Nat) : Int) := by
  unfold cnt3
  by_cases h : n ≤ 0
  · rw [if_neg (show ¬ 3 < n by omega), if_neg (show ¬ n > 0 by omega), if_pos h]; rfl
  · by_cases h3 : 3 ≤ n
    · by_cases h4 : 3 < n
      · simp only [if_pos h4, if_neg h, if_pos h3]; omega
      · simp only [if_neg h4, if_neg h, if_pos h3]; rw [if_pos (by omega)]; omega
    · simp only [if_neg (show ¬ 3 < n by omega), if_neg h, if_neg h3]; rw [if_pos (by omega)]; omega
def own (t : GType) : List GOwner := if t.fKind = 2 then t.fOwn.l.take (cnt3 t.fN + 1) else []
theorem A4_len {α : Type} (x : A4 α) : x.l.length = 4 := rfl
theorem own_le (t : GType) : (own t).length ≤ 4 := by
  unfold own; split
  · rw [List.length_take, A4_len]; omega
  · simp
theorem kind_own_eq (t : GType) : kind_own t = some (t.fOwn.l.take (cnt3 t.fN + 1)) := by
  unfold kind_own
  have := cnt3_le t.fN
  rw [cnt3_ite, w64 (by omega) (by omega), show ((cnt3 t.fN : Nat) : Int) + 1 = ((cnt3 t.fN + 1 : Nat) : Int) by omega]
  unfold cutL
  rw [if_pos ⟨by omega, by omega, by rw [A4_len]; omega⟩]
  simp
theorem kind_Owners_eq (t : GType) : kind_Owners t = some (own t) := by
  unfold kind_Owners own
  by_cases h : t.fKind = 2
  · rw [if_neg (by simp [h]), if_pos h, kind_own_eq, obs]
    unfold slices_Clone_api_Owner
    rw [room_ok (by rw [List.length_take, A4_len]; simp; omega)]
    rfl
  · rw [if_pos (by simpa using h), if_neg h]

theorem ref05_Owners_L {t : GType} (h : t.fKind = 2) : ∀ (n k : Nat), n + k = 6 → k ≤ cnt3 t.fN + 1 → ref05_Owners_L1 t n (t.fOwn.l.take k) (k : Int) = some (own t)
  | 0, k, hn, hk => by have := cnt3_le t.fN; omega
  | n + 1, k, hn, hk => by
    have hc := cnt3_le t.fN
    rw [ref05_Owners_L1]
    unfold ref05_count
    rw [cnt3_ite, obs]
    by_cases hlt : k ≤ cnt3 t.fN
    · rw [if_pos (by simpa using hlt), obs, if_pos (by simpa using h), idx_lt (by rw [A4_len]; omega), obs]
      rw [room_ok (by rw [List.length_take, List.length_singleton]; have := A4_len t.fOwn; omega), obs, w64 (by omega) (by omega), show ((k : Nat) : Int) + 1 = ((k + 1 : Nat) : Int) by omega]
      rw [← List.take_succ_eq_append_getElem (by rw [A4_len]; omega)]
      exact ref05_Owners_L h n (k + 1) (by omega) (by omega)
    · rw [if_neg (by simpa using hlt), obs, if_neg (by simp)]
      have : k = cnt3 t.fN + 1 := by omega
      unfold own
      rw [if_pos h, this]
theorem ref05_Owners_eq (t : GType) : ref05_Owners t = some (own t) := by
  unfold ref05_Owners
  by_cases h : t.fKind = 2
  · have := ref05_Owners_L h 6 0 (by omega) (by omega)
    rw [show ((0 : Nat) : Int) = 0 from rfl, List.take_zero] at this
    rw [this]; rfl
  · rw [ref05_Owners_L1]
    have hk : (t.fKind == 2) = false := by simpa using h
    unfold ref05_count own
    rw [cnt3_ite, obs, if_neg h, if_pos (by simp), obs, hk, if_neg (by simp)]
    rfl

theorem bGOwner_refl (a : GOwner) : bGOwner a a = true := by simp [bGOwner]
def putAt (l : List GOwner) (n : Int) : GOwner := match idx l n with | some y => y | none => ⟨8, 0⟩
def putS (a : GOwner) (l : List GOwner) : GOwner := if a.fKind = 3 then putAt l a.fN else if a.fKind = 2 then putAt l 0 else a
theorem owner_Put_eq (a : GOwner) (l : List GOwner) : owner_Put a l = some (putS a l) := by
  have key : ∀ n : Int, (Option.bind (if (decide (n < 0)) = true then some true else some (decide (n ≥ (l.length : Int))) : Option Bool) fun x5 =>
      if x5 = true then some ({ fKind := 8, fN := 0 } : GOwner) else Option.bind (idx l n) fun (y9 : GOwner) => some y9) = some (putAt l n) := by
    intro n
    by_cases h0 : n < 0
    · simp [h0, putAt, idx_neg h0]
    · by_cases h1 : n ≥ (l.length : Int)
      · simp [h0, h1, putAt, idx_ge h1]
      · have := idx_in (l := l) (n := n) (by omega) (by omega)
        simp [h0, h1, putAt, this]
  unfold owner_Put putS
  by_cases h3 : a.fKind = 3
  · simp only [h3, if_true, beq_self_eq_true, Ctl.go]; exact key _
  · by_cases h2 : a.fKind = 2
    · simp [h2, Ctl.go]; simpa using key 0
    · simp [h3, h2, Ctl.go]

theorem ref04_Put_L1_eq (l : List GOwner) (x : Int) (hl : l.length ≤ 9223372036854775807) : ∀ (n k : Nat), k ≤ l.length → l.length - k < n →
    ref04_Put_L1 l x n (k : Int) = some (match (if (k : Int) ≤ x then idx l x else none) with | some y => .stop y | none => .next ()) := by
  intro n
  induction n with
  | zero => intro k _ h; omega
  | succ n ih =>
    intro k hk hn
    unfold ref04_Put_L1
    by_cases h : (k : Int) < (l.length : Int)
    · have hk' : k < l.length := by omega
      simp only [h, decide_true, if_true]
      by_cases hx : (k : Int) = x
      · subst hx
        simp [idx_lt hk']
      · have hx' : ((k : Int) == x) = false := by simpa using hx
        simp only [hx', Bool.false_eq_true, if_false]
        rw [w64_succ hk' hl, ih (k + 1) (by omega) (by omega)]
        congr 2
        by_cases h1 : (k : Int) ≤ x
        · rw [if_pos h1, if_pos (by omega)]
        · rw [if_neg h1, if_neg (by omega)]
    · have hk' : k = l.length := by omega
      simp only [h, decide_false, Bool.false_eq_true, if_false]
      by_cases h1 : (k : Int) ≤ x
      · rw [if_pos h1, idx_ge (by omega)]
      · rw [if_neg h1]
theorem ref04_Put_eq (a : GOwner) (l : List GOwner) (hl : l.length ≤ 9223372036854775807) : ref04_Put a l = some (putS a l) := by
  have key : ∀ x : Int, (Option.bind (ref04_Put_L1 l x ((((l.length : Int)) - (0)).toNat + 1) 0) fun lr29 =>
    Ctl.elim lr29 (fun v => some v) fun _ =>
    some ({ fKind := 8, fN := 0 } : GOwner)) = some (putAt l x) := by
    intro x
    have := ref04_Put_L1_eq l x hl ((((l.length : Int)) - (0)).toNat + 1) 0 (by omega) (by omega)
    rw [show ((0 : Nat) : Int) = 0 from rfl] at this
    rw [this]
    unfold putAt
    by_cases h : (0 : Int) ≤ x
    · rw [if_pos h]
      cases idx l x <;> rfl
    · rw [if_neg h, idx_neg (by omega)]; rfl
  unfold ref04_Put putS
  by_cases h3 : a.fKind = 3
  · simp [h3]; simpa using key a.fN
  · by_cases h2 : a.fKind = 2
    · simp [h2]; simpa using key 0
    · simp [h3, h2]

def uniq (t : GType) : Bool := decide (t.fKind = 2) && decide (t.fOwn.a0.fKind = 6)
theorem kind_Unique_eq (t : GType) : kind_Unique t = some (uniq t) := by
  unfold kind_Unique uniq
  by_cases h : t.fKind = 2
  · rw [if_pos (by simpa using h)]; simp [h]; rfl
  · rw [if_neg (by simpa using h)]; simp [h]

theorem ref05_Unique_eq (t : GType) : ref05_Unique t = some (uniq t) := by
  unfold ref05_Unique uniq
  by_cases h : t.fKind = 2
  · rw [if_pos (by simpa using h)]; simp [h]; rfl
  · rw [if_neg (by simpa using h)]; simp [h]

/-! ### A type with other owners. -/
theorem foldO_some {α S : Type} (f : S → α → Option S) (g : S → α → S) (h : ∀ s y, f s y = some (g s y)) : ∀ (l : List α) (s : S), foldO f s l = some (l.foldl g s)
  | [], s => rfl
  | y :: l, s => by simp only [foldO, h, obs, List.foldl_cons]; exact foldO_some f g h l _
def holeStep (s : Int) (y : GOwner) : Int := if (y.fKind == 7) = true then w_i64 (s + 1) else s
def holesS (t : GType) : Int := (own t).foldl holeStep 0
theorem kind_Holes_eq (t : GType) : kind_Holes t = some (holesS t) := by
  unfold kind_Holes
  have hl := own_le t
  rw [kind_Owners_eq, obs, foldL (fun n s x => kind_Holes_L1 (own t) n s x) (by omega) (f := fun s y => some (holeStep s y)) (fin := fun s => some s) (fun n s x => by
    simp only [kind_Holes_L1, Option.bind_assoc]
    congr 1
    cases idx (own t) x with
    | none => rfl
    | some y => simp only [obs, holeStep]; split <;> simp only [obs]), foldO_some _ holeStep (fun _ _ => rfl), obs, obs]
  rfl
theorem ref05_Holes_eq (t : GType) : ref05_Holes t = some (holesS t) := by
  unfold ref05_Holes
  have hl := own_le t
  rw [ref05_Owners_eq, obs, foldL (fun n s x => ref05_Holes_L1 (own t) n s x) (by omega) (f := fun s y => some (holeStep s y)) (fin := fun s => some s) (fun n s x => by
    simp only [ref05_Holes_L1, Option.bind_assoc]
    congr 1
    cases idx (own t) x with
    | none => rfl
    | some y => simp only [obs, holeStep]; split <;> simp only [obs]), foldO_some _ holeStep (fun _ _ => rfl), obs, obs]
  rfl
theorem owner_All_L {l m : List GOwner} (hl : l.length ≤ 1000) : ∀ (n k : Nat) (x : List GOwner), n + k = l.length + 1 → k ≤ l.length → x.length = l.length → owner_All_L1 l m n x (k : Int) = some (x.take k ++ (l.drop k).map (putS · m))
  | 0, k, x, h, hk, hx => by omega
  | n + 1, k, x, h, hk, hx => by
    simp only [owner_All_L1]
    by_cases hlt : k < l.length
    · have hxk : k < x.length := by omega
      rw [if_pos (by simpa using hlt), idx_lt hlt, obs, owner_Put_eq, obs, idx_lt hxk, obs, w64_succ hlt (by omega), Int.toNat_natCast, owner_All_L hl n (k + 1) _ (by omega) (by omega) (by simpa using hx), List.drop_eq_getElem_cons hlt, List.map_cons]
      congr 1
      rw [List.take_succ_eq_append_getElem (by simpa using hxk), List.take_set_of_le (by omega), List.getElem_set_self]
      simp
    · have : k = l.length := by omega
      subst this
      rw [if_neg (by simp), List.drop_eq_nil_of_le (by omega), List.take_of_length_le (by omega)]
      simp
theorem owner_All_eq {l m : List GOwner} (hl : l.length ≤ 1000) : owner_All l m = some (l.map (putS · m)) := by
  unfold owner_All
  have hm : mkOk (l.length : Int) (l.length : Int) 16 = some () := by
    unfold mkOk
    rw [if_pos ⟨by omega, by omega, by omega⟩]
  rw [hm, obs, show (((l.length : Int) : Int) - 0).toNat + 1 = l.length + 1 by omega, show (0 : Int) = ((0 : Nat) : Int) from rfl, owner_All_L hl _ 0 _ (by omega) (by omega) (by simp), obs]
  simp
def withS (t : GType) (m : List GOwner) : GType := { t with fOwn := A4.cp t.fOwn ((own t).map (putS · m)) }
theorem kind_With_eq (t : GType) (m : List GOwner) : kind_With t m = some (withS t m) := by
  unfold kind_With
  have := own_le t
  rw [kind_Owners_eq, obs, owner_All_eq (by omega), obs]
  rfl
theorem A4_set_get {α : Type} (x : A4 α) (i : Nat) (hi : i < 4) (v : α) (j : Nat) : (A4.set x i v).l[j]? = if i = j ∧ j < 4 then some v else x.l[j]? := by
  obtain ⟨a, b, c, d⟩ := x
  match i, j, hi with
  | 0, 0, _ | 0, 1, _ | 0, 2, _ | 0, 3, _ | 1, 0, _ | 1, 1, _ | 1, 2, _ | 1, 3, _ | 2, 0, _ | 2, 1, _ | 2, 2, _ | 2, 3, _ | 3, 0, _ | 3, 1, _ | 3, 2, _ | 3, 3, _ => rfl
  | 0, j + 4, _ | 1, j + 4, _ | 2, j + 4, _ | 3, j + 4, _ => simp [A4.set, A4.l]
theorem A4_ext {α : Type} {x y : A4 α} (h : ∀ j : Nat, x.l[j]? = y.l[j]?) : x = y := by
  obtain ⟨a, b, c, d⟩ := x
  obtain ⟨a', b', c', d'⟩ := y
  have h0 := h 0; have h1 := h 1; have h2 := h 2; have h3 := h 3
  simp [A4.l] at h0 h1 h2 h3
  rw [h0, h1, h2, h3]
theorem A4_cp_get {α : Type} (x : A4 α) (l : List α) (j : Nat) : (A4.cp x l).l[j]? = if j < 4 then some ((l[j]?).getD ((x.l[j]?).getD x.a0)) else none := by
  obtain ⟨a, b, c, d⟩ := x
  match j with
  | 0 | 1 | 2 | 3 => rfl
  | j + 4 => simp [A4.cp, A4.l]
theorem ref05_With_L {t : GType} {m l : List GOwner} (hm : m.length ≤ 9223372036854775807) (hl : l.length ≤ 4) : ∀ (n k : Nat) (x : GType), n + k = l.length + 1 → k ≤ l.length → x = { t with fOwn := A4.cp t.fOwn ((l.take k).map (putS · m)) } →
    ref05_With_L1 m l n x (k : Int) = some { t with fOwn := A4.cp t.fOwn (l.map (putS · m)) }
  | 0, k, x, h, hk, hx => by omega
  | n + 1, k, x, h, hk, hx => by
    simp only [ref05_With_L1]
    by_cases hlt : k < l.length
    · have hx4 : k < x.fOwn.l.length := by rw [A4_len]; omega
      rw [if_pos (by simpa using hlt), idx_lt hlt, obs, ref04_Put_eq _ _ hm, obs, idx_lt hx4, obs, w64_succ hlt (by omega), Int.toNat_natCast]
      refine ref05_With_L hm hl n (k + 1) _ (by omega) (by omega) ?_
      subst hx
      simp only [GType.mk.injEq, true_and]
      refine A4_ext fun j => ?_
      rw [A4_set_get _ _ (by omega), A4_cp_get, A4_cp_get]
      by_cases hj : j < 4
      · by_cases hkj : k = j
        · subst hkj
          rw [if_pos ⟨rfl, hj⟩, if_pos hj, List.getElem?_map, List.getElem?_take, if_pos (by omega), List.getElem?_eq_getElem hlt]; rfl
        · rw [if_neg (fun h => hkj h.1), if_pos hj, if_pos hj, List.getElem?_map, List.getElem?_map, List.getElem?_take, List.getElem?_take]
          by_cases h1 : j < k
          · rw [if_pos h1, if_pos (by omega)]
          · rw [if_neg h1, if_neg (by omega)]
      · rw [if_neg (fun h => hj h.2), if_neg hj, if_neg hj]
    · have : k = l.length := by omega
      subst this
      rw [if_neg (by simp), hx, List.take_length]
theorem ref05_With_eq (t : GType) {m : List GOwner} (hm : m.length ≤ 9223372036854775807) : ref05_With t m = some (withS t m) := by
  unfold ref05_With
  have := own_le t
  rw [ref05_Owners_eq, obs, show ((((own t).length : Int) : Int) - 0).toNat + 1 = (own t).length + 1 by omega, show (0 : Int) = ((0 : Nat) : Int) from rfl, ref05_With_L (t := t) hm (by omega) _ 0 t (by omega) (by omega) (by simp [A4.cp]), obs]
  rfl

theorem law05_awake_eq : law05_awake = some true := by kernel_rfl
theorem kindWith_L {l : List GOwner} (hl : l.length ≤ 1000) : ∀ (n k : Nat), n + k = l.length + 1 → k ≤ l.length → law05_KindWith_L1 l l n (k : Int) = some (.next ())
  | 0, k, h, hk => by omega
  | n + 1, k, h, hk => by
    simp only [law05_KindWith_L1]
    by_cases hlt : k < l.length
    · rw [if_pos (by simpa using hlt), idx_lt hlt, obs, obs, bGOwner_refl, if_neg (by simp), w64_succ hlt (by omega)]
      exact kindWith_L hl n (k + 1) (by omega) (by omega)
    · rw [if_neg (by simpa using hlt)]
theorem bGType_refl (t : GType) : bGType t t = true := by simp [bGType]
theorem law05_KindWith_true {a0 : GType} {a1 : List GOwner} (_ : goodGType a0) (h1 : listok goodGOwner a1) : law05_KindWith a0 a1 = some true := by
  unfold law05_KindWith
  have hm : a1.length ≤ 9223372036854775807 := by have := h1.1; unfold maxLen at this; omega
  have hl := own_le a0
  rw [law05_awake_eq, obs, kind_Owners_eq, obs, ref05_Owners_eq, obs, show ((((own a0).length : Int) : Int) - 0).toNat + 1 = (own a0).length + 1 by omega, show (0 : Int) = ((0 : Nat) : Int) from rfl,
    kindWith_L (by omega) _ 0 (by omega) (by omega), kind_Holes_eq, ref05_Holes_eq, kind_Unique_eq, ref05_Unique_eq, kind_With_eq, ref05_With_eq a0 hm]
  simp [obs, Ctl.elim, bGType_refl]


end Go.Proofs.YtkmaieldmcjbfaaDoor
