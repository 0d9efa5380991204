/- A part of the proof that the law OwnerTwice gives true for every input. -/
import Derived.Test.YtdffghiejjaomaaAbsS
import Derived.Test.YtdffghiejjaomaaOwnerTwiceT
import Derived.Test.YtdffghiejjaomaaOwnerTwiceD
/- OwnerPut: the plain law. -/
namespace Go.Proofs.Ytdffghiejjaomaa
open Go.RowKit Go.Abs

theorem bGOwner_eq (a b : GOwner) : bGOwner a b = decide (a = b) := by
  rw [Bool.eq_iff_iff]; cases a; cases b; simp [bGOwner]
theorem bGOwner_refl (a : GOwner) : bGOwner a a = true := by simp [bGOwner]

def putAt (l : List GOwner) (n : Int) : GOwner := match idx l n with | some y => y | none => ⟨8, 0⟩
def putS (a : GOwner) (l : List GOwner) : GOwner := if a.fKind = 3 then putAt l a.fN else if a.fKind = 2 then putAt l 0 else a

theorem owner_Put_eq (a : GOwner) (l : List GOwner) : owner_Put a l = some (putS a l) := by
  have key : ∀ n : Int, (Option.bind (if (decide (n < 0)) = true then some true else some (decide (n ≥ (l.length : Int))) : Option Bool) fun x5 =>
      if x5 = true then some ({ fKind := 8, fN := 0 } : GOwner) else Option.bind (idx l n) fun (y9 : GOwner) => some y9) = some (putAt l n) := by
    intro n
    by_cases h0 : n < 0
    · simp [h0, putAt, idx_neg h0]
    · by_cases h1 : n ≥ (l.length : Int)
      · simp [h0, h1, putAt, idx_ge h1]
      · have := idx_in (l := l) (n := n) (by omega) (by omega)
        simp [h0, h1, putAt, this]
  unfold owner_Put putS
  by_cases h3 : a.fKind = 3
  · simp only [h3, if_true, beq_self_eq_true, Ctl.go]; exact key _
  · by_cases h2 : a.fKind = 2
    · simp [h2, Ctl.go]; simpa using key 0
    · simp [h3, h2, Ctl.go]

theorem ref04_Put_L1_eq (l : List GOwner) (x : Int) (hl : l.length ≤ 9223372036854775807) : ∀ (n k : Nat), k ≤ l.length → l.length - k < n →
    ref04_Put_L1 l x n (k : Int) = some (match (if (k : Int) ≤ x then idx l x else none) with | some y => .stop y | none => .next ()) := by
  intro n
  induction n with
  | zero => intro k _ h; omega
  | succ n ih =>
    intro k hk hn
    unfold ref04_Put_L1
    by_cases h : (k : Int) < (l.length : Int)
    · have hk' : k < l.length := by omega
      simp only [h, decide_true, if_true]
      by_cases hx : (k : Int) = x
      · subst hx
        simp [idx_lt hk']
      · have hx' : ((k : Int) == x) = false := by simpa using hx
        simp only [hx', Bool.false_eq_true, if_false]
        rw [w64_succ hk' hl, ih (k + 1) (by omega) (by omega)]
        congr 2
        by_cases h1 : (k : Int) ≤ x
        · rw [if_pos h1, if_pos (by omega)]
        · rw [if_neg h1, if_neg (by omega)]
    · have hk' : k = l.length := by omega
      simp only [h, decide_false, Bool.false_eq_true, if_false]
      by_cases h1 : (k : Int) ≤ x
      · rw [if_pos h1, idx_ge (by omega)]
      · rw [if_neg h1]

theorem ref04_Put_eq (a : GOwner) (l : List GOwner) (hl : l.length ≤ 9223372036854775807) : ref04_Put a l = some (putS a l) := by
  have key : ∀ x : Int, (Option.bind (ref04_Put_L1 l x ((((l.length : Int)) - (0)).toNat + 1) 0) fun lr29 =>
    Ctl.elim lr29 (fun v => some v) fun _ =>
    some ({ fKind := 8, fN := 0 } : GOwner)) = some (putAt l x) := by
    intro x
    have := ref04_Put_L1_eq l x hl ((((l.length : Int)) - (0)).toNat + 1) 0 (by omega) (by omega)
    rw [show ((0 : Nat) : Int) = 0 from rfl] at this
    rw [this]
    unfold putAt
    by_cases h : (0 : Int) ≤ x
    · rw [if_pos h]
      cases idx l x <;> rfl
    · rw [if_neg h, idx_neg (by omega)]; rfl
  unfold ref04_Put putS
  by_cases h3 : a.fKind = 3
  · simp [h3]; simpa using key a.fN
  · by_cases h2 : a.fKind = 2
    · simp [h2]; simpa using key 0
    · simp [h3, h2]

theorem owner_All_L1_eq (l m : List GOwner) (hl : l.length ≤ 9223372036854775807) : ∀ (n k : Nat) (r : List GOwner), k ≤ l.length → l.length - k < n → r.length = l.length →
    owner_All_L1 l m n r (k : Int) = some (r.take k ++ (l.drop k).map (putS · m)) := by
  intro n
  induction n with
  | zero => intro k r _ h; omega
  | succ n ih =>
    intro k r hk hn hr
    unfold owner_All_L1
    by_cases h : (k : Int) < (l.length : Int)
    · have hk' : k < l.length := by omega
      simp only [h, decide_true, if_true, idx_lt hk', obs, owner_Put_eq, idx_lt (show k < r.length by omega)]
      rw [w64_succ hk' hl, ih (k + 1) _ (by omega) (by omega) (by simpa using hr)]
      congr 1
      rw [List.drop_eq_getElem_cons hk', List.map_cons, Int.toNat_natCast]
      rw [List.take_succ_eq_append_getElem (by simp; omega)]
      have : List.take k (r.set k (putS l[k] m)) = List.take k r := List.ext_getElem? fun i => by
        by_cases hi : i < k
        · simp [List.getElem?_take, List.getElem?_set, hi, show ¬ k = i by omega]
        · simp [List.getElem?_take, hi]
      simp [this]
    · have hk' : k = l.length := by omega
      subst hk'
      simp [List.take_of_length_le (Nat.le_of_eq hr)]

theorem owner_All_eq (l m : List GOwner) (hl : l.length ≤ 1000) : owner_All l m = some (l.map (putS · m)) := by
  unfold owner_All
  rw [mkOk_ok (by omega) (by omega) (by omega)]
  have := owner_All_L1_eq l m (by omega) ((((l.length : Int)) - (0)).toNat + 1) 0 (List.replicate ((l.length : Int)).toNat ({ fKind := 0, fN := 0 } : GOwner)) (by omega) (by omega) (by simp)
  rw [show ((0 : Nat) : Int) = 0 from rfl] at this
  simp only [obs]
  rw [this]
  simp

theorem ref04_All_L1_eq (l m : List GOwner) (hl : l.length ≤ 1000) (hm : m.length ≤ 9223372036854775807) : ∀ (n k : Nat) (r : List GOwner), k ≤ l.length → l.length - k < n → r.length = k →
    ref04_All_L1 l m n r (k : Int) = some (r ++ (l.drop k).map (putS · m)) := by
  intro n
  induction n with
  | zero => intro k r _ h; omega
  | succ n ih =>
    intro k r hk hn hr
    unfold ref04_All_L1
    by_cases h : (k : Int) < (l.length : Int)
    · have hk' : k < l.length := by omega
      simp only [h, decide_true, if_true, idx_lt hk', obs, ref04_Put_eq _ _ hm]
      rw [room_ok (by rw [hr, List.length_singleton]; omega)]
      simp only [obs]
      rw [w64_succ hk' (by omega), ih (k + 1) _ (by omega) (by omega) (by simp; omega)]
      rw [List.drop_eq_getElem_cons hk', List.map_cons]
      simp
    · have hk' : k = l.length := by omega
      subst hk'
      simp

theorem ref04_All_eq (l m : List GOwner) (hl : l.length ≤ 1000) (hm : m.length ≤ 9223372036854775807) : ref04_All l m = some (l.map (putS · m)) := by
  unfold ref04_All
  have := ref04_All_L1_eq l m hl hm ((((l.length : Int)) - (0)).toNat + 1) 0 [] (by omega) (by omega) rfl
  rw [show ((0 : Nat) : Int) = 0 from rfl] at this
  rw [this]
  simp

theorem law04_same_L1_eq (l : List GOwner) (hl : l.length ≤ 9223372036854775807) : ∀ (n k : Nat), k ≤ l.length → l.length - k < n → law04_same_L1 l l n (k : Int) = some (.next ()) := by
  intro n
  induction n with
  | zero => intro k _ h; omega
  | succ n ih =>
    intro k hk hn
    unfold law04_same_L1
    by_cases h : (k : Int) < (l.length : Int)
    · have hk' : k < l.length := by omega
      simp only [h, decide_true, if_true, idx_lt hk', obs, bGOwner_refl, Bool.not_true, Bool.false_eq_true, if_false]
      rw [w64_succ hk' hl, ih (k + 1) (by omega) (by omega)]
    · simp [h]
theorem law04_same_refl (l : List GOwner) (hl : l.length ≤ 9223372036854775807) : law04_same l l = some true := by
  unfold law04_same
  have := law04_same_L1_eq l hl ((((l.length : Int)) - (0)).toNat + 1) 0 (by omega) (by omega)
  rw [show ((0 : Nat) : Int) = 0 from rfl] at this
  rw [this]; simp [Ctl.elim]

theorem law04_awake_true : law04_awake = some true := by decide +kernel

theorem law04_OwnerPut_true {a : GOwner} {l m : List GOwner} (_ : goodGOwner a) (hl : listok goodGOwner l) (hm : listok goodGOwner m) : law04_OwnerPut a l m = some true := by
  have hl' := hl.1
  have hm' := hm.1
  simp only [maxLen] at hl' hm'
  unfold law04_OwnerPut
  simp only [owner_Put_eq, ref04_Put_eq a l hl', law04_awake_true, obs, bGOwner_refl, if_true]
  by_cases h1 : (l.length : Int) > 20
  · simp [h1]
  · by_cases h2 : (m.length : Int) > 20
    · simp [h1, h2]
    · simp only [h1, h2, decide_false, Bool.false_eq_true, if_false, obs]
      rw [owner_All_eq l m (by omega), ref04_All_eq l m (by omega) (by omega)]
      simp only [obs]
      rw [law04_same_refl _ (by simp; omega)]
      simp
end Go.Proofs.Ytdffghiejjaomaa
