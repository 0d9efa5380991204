/- A part of the proof that the law OwnerTwice gives true for every input. -/
import Derived.Test.YtdffghiejjaomaaAbsS
import Derived.Test.YtdffghiejjaomaaOwnerTwiceT
import Derived.Test.YtdffghiejjaomaaOwnerTwiceD
import Derived.Test.YtdffghiejjaomaaOwnerTwiceL1
/- OwnerTwice: the plain law. -/
namespace Go.Proofs.Ytdffghiejjaomaa
open Go.RowKit Go.Abs

def cmpS (a b : Int) : Int := if a < b then -1 else if a > b then 1 else 0
theorem cmp_eq (a b : Int) : cmp_Compare_int_ a b = some (cmpS a b) := by
  unfold cmp_Compare_int_ cmp_isNaN_int_ cmpS
  simp only [bne_self_eq_false, obs, Bool.false_eq_true, if_false, decide_eq_true_eq]
  split
  · rfl
  · split <;> rfl
theorem or_eq (x y : Int) : cmp_Or_int_ [x, y] = some (if x ≠ 0 then x else y) := by
  unfold cmp_Or_int_
  simp only [List.length_cons, List.length_nil]
  rw [show (((0 + 1 + 1 : Nat) : Int) - 0).toNat + 1 = 3 from rfl]
  by_cases hx : x = 0
  · by_cases hy : y = 0
    · subst hx; subst hy; rfl
    · subst hx
      have h1 : (y != 0) = true := by simpa using hy
      simp only [cmp_Or_int__L1]
      rw [show w_i64 ((0 : Int) + 1) = 1 from rfl]
      simp [idx, h1, Ctl.elim, hy]
  · simp [cmp_Or_int__L1, idx, hx, Ctl.elim]
def ordS (a b : GOwner) : Int := if cmpS a.fKind b.fKind ≠ 0 then cmpS a.fKind b.fKind else cmpS a.fN b.fN
theorem order_eq (a b : GOwner) : owner_Order a b = some (ordS a b) := by
  unfold owner_Order ordS
  rw [cmp_eq, cmp_eq]
  simp only [obs, or_eq]
theorem cmpS_cases (a b : Int) : (a < b ∧ cmpS a b = -1) ∨ (a = b ∧ cmpS a b = 0) ∨ (a > b ∧ cmpS a b = 1) := by
  unfold cmpS
  rcases Int.lt_trichotomy a b with h | h | h
  · exact .inl ⟨h, by simp [h]⟩
  · exact .inr (.inl ⟨h, by simp [h]⟩)
  · refine .inr (.inr ⟨h, ?_⟩)
    have : ¬ a < b := by omega
    simp [h, this]
theorem ordS_cases (a b : GOwner) : ((a.fKind < b.fKind ∨ a.fKind = b.fKind ∧ a.fN < b.fN) ∧ ordS a b = -1) ∨ (a = b ∧ ordS a b = 0) ∨ ((a.fKind > b.fKind ∨ a.fKind = b.fKind ∧ a.fN > b.fN) ∧ ordS a b = 1) := by
  unfold ordS
  rcases cmpS_cases a.fKind b.fKind with ⟨h1, e1⟩ | ⟨h1, e1⟩ | ⟨h1, e1⟩
  · exact .inl ⟨.inl h1, by simp [e1]⟩
  · rw [e1]
    rcases cmpS_cases a.fN b.fN with ⟨h2, e2⟩ | ⟨h2, e2⟩ | ⟨h2, e2⟩
    · exact .inl ⟨.inr ⟨h1, h2⟩, by simp [e2]⟩
    · refine .inr (.inl ⟨?_, by simp [e2]⟩)
      cases a; cases b; simp_all
    · exact .inr (.inr ⟨.inr ⟨h1, h2⟩, by simp [e2]⟩)
  · exact .inr (.inr ⟨.inl h1, by simp [e1]⟩)

theorem putAt_map (l m : List GOwner) (n : Int) : putS (putAt l n) m = putAt (l.map (putS · m)) n := by
  unfold putAt
  cases h : idx l n with
  | some y => rw [idx_map (putS · m) h]
  | none =>
    have : idx (l.map (putS · m)) n = none := by
      unfold idx at h ⊢
      split
      · rename_i h0
        rw [if_pos h0] at h
        rw [List.getElem?_map, h]; rfl
      · rfl
    rw [this]; rfl
theorem putS_twice (a : GOwner) (l m : List GOwner) : putS (putS a l) m = putS a (l.map (putS · m)) := by
  by_cases h3 : a.fKind = 3
  · have h : ∀ l, putS a l = putAt l a.fN := fun l => by unfold putS; rw [if_pos h3]
    rw [h, h, putAt_map]
  · by_cases h2 : a.fKind = 2
    · have h : ∀ l, putS a l = putAt l 0 := fun l => by unfold putS; rw [if_neg h3, if_pos h2]
      rw [h, h, putAt_map]
    · have h : ∀ l, putS a l = a := fun l => by unfold putS; rw [if_neg h3, if_neg h2]
      rw [h, h, h]

theorem law04_OwnerTwice_true {t : A3 GOwner} {l m : List GOwner} (_ : goodGOwner t.a0 ∧ goodGOwner t.a1 ∧ goodGOwner t.a2) (hl : listok goodGOwner l) (hm : listok goodGOwner m) : law04_OwnerTwice t l m = some true := by
  unfold law04_OwnerTwice
  by_cases h1 : (l.length : Int) > 20
  · simp [h1, law04_awake_true]
  · by_cases h2 : (m.length : Int) > 20
    · simp [h1, h2, law04_awake_true]
    · simp only [h1, h2, decide_false, Bool.false_eq_true, if_false, obs, order_eq]
      have key : (if (ordS t.a0 t.a1 != w_i64 (0 - ordS t.a1 t.a0)) = true then some true
          else if (!((ordS t.a0 t.a1 == 0) == bGOwner t.a0 t.a1)) = true then some true
          else if decide (ordS t.a0 t.a1 < 0) = true then if decide (ordS t.a1 t.a2 < 0) = true then some (decide (ordS t.a0 t.a2 ≥ 0)) else some false else some false : Option Bool) = some false := by
        have w1 : w_i64 (0 - (1 : Int)) = -1 := rfl
        have w2 : w_i64 (0 - (-1 : Int)) = 1 := rfl
        have w3 : w_i64 (0 - (0 : Int)) = 0 := rfl
        rw [bGOwner_eq]
        rcases ordS_cases t.a0 t.a1 with ⟨p1, e1⟩ | ⟨p1, e1⟩ | ⟨p1, e1⟩
        · have e1' : ordS t.a1 t.a0 = 1 := by
            rcases ordS_cases t.a1 t.a0 with ⟨q, e⟩ | ⟨q, e⟩ | ⟨q, e⟩
            · omega
            · rw [q] at p1; omega
            · exact e
          have hne : t.a0 ≠ t.a1 := fun e => by rw [e] at p1; omega
          rw [e1, e1', w1]
          by_cases h3 : ordS t.a1 t.a2 < 0
          · have e3 : ordS t.a0 t.a2 = -1 := by
              rcases ordS_cases t.a1 t.a2 with ⟨q, e⟩ | ⟨q, e⟩ | ⟨q, e⟩
              · rcases ordS_cases t.a0 t.a2 with ⟨q', e'⟩ | ⟨q', e'⟩ | ⟨q', e'⟩
                · exact e'
                · rw [q'] at p1; omega
                · omega
              · omega
              · omega
            simp [h3, e3, hne]
          · simp [h3, hne]
        · rw [p1] at e1 ⊢
          rw [e1, w3]
          simp
        · have e1' : ordS t.a1 t.a0 = -1 := by
            rcases ordS_cases t.a1 t.a0 with ⟨q, e⟩ | ⟨q, e⟩ | ⟨q, e⟩
            · exact e
            · rw [q] at p1; omega
            · omega
          have hne : t.a0 ≠ t.a1 := fun e => by rw [e] at p1; omega
          rw [e1, e1', w2]
          simp [hne]
      rw [key]
      simp only [obs, Bool.false_eq_true, if_false, owner_Put_eq]
      rw [owner_All_eq l m (by omega)]
      simp only [obs, owner_Put_eq, putS_twice, bGOwner_refl, if_true, law04_awake_true]
end Go.Proofs.Ytdffghiejjaomaa
