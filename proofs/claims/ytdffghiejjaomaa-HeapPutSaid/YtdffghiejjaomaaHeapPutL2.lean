/- A part of the proof that the law HeapPut gives true for every input. -/
import Derived.Test.YtdffghiejjaomaaAbsS
import Derived.Test.YtdffghiejjaomaaHeapPutT
import Derived.Test.YtdffghiejjaomaaHeapPutD
/- HeapTells: the plain law. -/
namespace Go.Proofs.Ytdffghiejjaomaa
open Go.RowKit Go.Abs

theorem bGVal_refl (a : GVal) : bGVal a a = true := by simp [bGVal]
theorem bA4_refl (a : A4 Int) : bA4Int a a = true := by simp [bA4Int]

theorem great_L1 (h : List GCell) (hl : h.length ≤ 9223372036854775807) : ∀ (n k : Nat), k ≤ h.length → h.length - k < n →
    ∃ r, ref35_Great_L1 h n (k : Int) = some r ∧ (r = .stop true ∨ r = .next () ∧ (k < h.length → h.length ≤ 200) ∧ ∀ j, k ≤ j → ∀ c, h[j]? = some c → c.fFields.length ≤ 60) := by
  intro n
  induction n with
  | zero => intro k _ h; omega
  | succ n ih =>
    intro k hk hn
    unfold ref35_Great_L1
    by_cases h1 : (k : Int) < (h.length : Int)
    · have hk' : k < h.length := by omega
      simp only [h1, decide_true, if_true, idx_lt hk', obs]
      by_cases h2 : (h.length : Int) > 200
      · exact ⟨.stop true, by simp [h2], .inl rfl⟩
      · by_cases h3 : ((h[k].fFields.length : Nat) : Int) > 60
        · exact ⟨.stop true, by simp [h2, h3], .inl rfl⟩
        · obtain ⟨r, e, hr⟩ := ih (k + 1) (by omega) (by omega)
          refine ⟨r, by simp only [h2, h3, decide_false, Bool.false_eq_true, if_false, obs]; rw [w64_succ hk' hl]; exact e, ?_⟩
          rcases hr with hr | ⟨hr, h4, h5⟩
          · exact .inl hr
          · refine .inr ⟨hr, fun _ => by omega, fun j hj c hc => ?_⟩
            by_cases hjk : j = k
            · subst hjk
              rw [List.getElem?_eq_getElem hk'] at hc
              cases hc; omega
            · exact h5 j (by omega) c hc
    · refine ⟨.next (), by simp [h1], .inr ⟨rfl, fun h => by omega, fun j hj c hc => ?_⟩⟩
      rw [List.getElem?_eq_none (by omega)] at hc; cases hc

theorem great_spec (h : List GCell) (hl : h.length ≤ 9223372036854775807) : ref35_Great h = some true ∨ ref35_Great h = some false ∧ h.length ≤ 200 ∧ ∀ c ∈ h, c.fFields.length ≤ 60 := by
  obtain ⟨r, e, hr⟩ := great_L1 h hl ((((h.length : Int)) - (0)).toNat + 1) 0 (by omega) (by omega)
  rw [show ((0 : Nat) : Int) = 0 from rfl] at e
  unfold ref35_Great
  rw [e]
  rcases hr with rfl | ⟨rfl, h1, h2⟩
  · exact .inl rfl
  · refine .inr ⟨rfl, ?_, fun c hc => ?_⟩
    · rcases Nat.eq_zero_or_pos h.length with h0 | h0
      · omega
      · exact h1 h0
    · obtain ⟨j, hj⟩ := List.getElem?_of_mem hc
      exact h2 j (Nat.zero_le _) c hj

def askS (h : List GCell) (a : Int) : Int := if a = 0 then 2 else match (if a < 1 then none else idx h (a - 1)) with
  | some c => if c.fDead then 7 else 0
  | none => 10
theorem askS_zero {h : List GCell} {a : Int} (e : askS h a = 0) : 1 ≤ a ∧ a ≤ h.length ∧ ∃ c, idx h (a - 1) = some c := by
  unfold askS at e
  split at e
  · cases e
  · split at e
    · rename_i c hc
      split at hc
      · cases hc
      · have := idx_spec hc
        exact ⟨by omega, by omega, c, hc⟩
    · cases e

theorem heap_Ask_eq (h : List GCell) (a : Int) (ha : i64ok a) : heap_Ask h a = some (askS h a) := by
  unfold heap_Ask askS
  by_cases h0 : a = 0
  · simp [h0]
  · by_cases h1 : a < 0
    · have : a < 1 := by omega
      simp [h0, h1, this]
    · by_cases h2 : a > (h.length : Int)
      · have h3 : ¬ a < 1 := by omega
        simp [h0, h1, h2, h3, idx_ge (l := h) (n := a - 1) (by omega)]
      · have h3 : ¬ a < 1 := by omega
        rw [w64 (by omega) (by have := ha.2; omega)]
        have := idx_in (l := h) (n := a - 1) (by omega) (by omega)
        simp only [beq_iff_eq, h0, if_false, h1, h2, h3, decide_false, Bool.false_eq_true, obs, this]
        split <;> simp_all
theorem ref35_Ask_eq (h : List GCell) (a : Int) (ha : i64ok a) : ref35_Ask h a = some (askS h a) := by
  unfold ref35_Ask askS
  by_cases h0 : a = 0
  · simp [h0]
  · by_cases h1 : a < 1
    · simp [h0, h1]
    · by_cases h2 : a > (h.length : Int)
      · simp [h0, h1, h2, idx_ge (l := h) (n := a - 1) (by omega)]
      · rw [w64 (by omega) (by have := ha.2; omega)]
        have := idx_in (l := h) (n := a - 1) (by omega) (by omega)
        simp only [beq_iff_eq, h0, if_false, h1, h2, decide_false, Bool.false_eq_true, obs, this]
        split <;> simp_all

def getS (h : List GCell) (a i : Int) : GVal × Int := if askS h a ≠ 0 then (⟨false, 0⟩, askS h a) else match (idx h (a - 1)).bind fun c => idx c.fFields i with
  | some v => (v, 0)
  | none => (⟨false, 0⟩, 8)
theorem heap_Get_eq (h : List GCell) (a i : Int) (ha : i64ok a) : heap_Get h a i = some (getS h a i) := by
  unfold heap_Get getS
  rw [heap_Ask_eq h a ha]
  simp only [obs]
  by_cases h0 : askS h a = 0
  · obtain ⟨h1, h2, c, hc⟩ := askS_zero h0
    rw [w64 (by omega) (by have := ha.2; omega), hc]
    simp only [h0, bne_self_eq_false, Bool.false_eq_true, if_false, obs, ne_eq, not_true]
    by_cases h3 : i < 0
    · simp [h3, idx_neg h3]
    · by_cases h4 : i ≥ (c.fFields.length : Int)
      · simp [h3, h4, idx_ge h4]
      · have := idx_in (l := c.fFields) (n := i) (by omega) (by omega)
        simp [h3, h4, this]
  · simp [h0]
theorem ref35_Get_eq (h : List GCell) (a i : Int) (ha : i64ok a) : ref35_Get h a i = some (getS h a i) := by
  unfold ref35_Get getS
  rw [ref35_Ask_eq h a ha]
  simp only [obs]
  by_cases h0 : askS h a = 0
  · obtain ⟨h1, h2, c, hc⟩ := askS_zero h0
    rw [w64 (by omega) (by have := ha.2; omega), hc]
    simp only [h0, bne_self_eq_false, Bool.false_eq_true, if_false, obs, ne_eq, not_true]
    by_cases h3 : i < 0
    · simp [h3, idx_neg h3]
    · by_cases h4 : i ≥ (c.fFields.length : Int)
      · simp [h3, h4, idx_ge h4]
      · have := idx_in (l := c.fFields) (n := i) (by omega) (by omega)
        simp [h3, h4, this]
  · simp [h0]
theorem getS_zero {h : List GCell} {a i : Int} (e : (getS h a i).2 = 0) : 1 ≤ a ∧ a ≤ h.length ∧ ∃ c v, idx h (a - 1) = some c ∧ idx c.fFields i = some v := by
  unfold getS at e
  split at e
  · rename_i h0; exact absurd e h0
  · rename_i h0
    have h0' : askS h a = 0 := by simpa using h0
    obtain ⟨h1, h2, c, hc⟩ := askS_zero h0'
    refine ⟨h1, h2, c, ?_⟩
    split at e
    · rename_i v hv
      rw [hc] at hv
      exact ⟨v, hc, hv⟩
    · cases e

def putS' (h : List GCell) (a i : Int) (v : GVal) : List GCell × Int := if (getS h a i).2 ≠ 0 then ([], (getS h a i).2) else match idx h (a - 1) with
  | some c => (h.set (a - 1).toNat { c with fFields := c.fFields.set i.toNat v }, 0)
  | none => ([], 0)
theorem own_eq (h : List GCell) (hl : h.length ≤ 1000) : heap_own h = some h := by
  unfold heap_own
  rw [w64 (by omega) (by omega), mkOk_ok (by omega) (by omega) (by omega)]
  simp
theorem clone_eq (l : List GVal) (hl : l.length ≤ 1000) : slices_Clone_api_Val l = some l := by
  unfold slices_Clone_api_Val
  rw [room_ok (by rw [List.length_nil]; omega)]
  simp
theorem heap_Put_eq (h : List GCell) (a i : Int) (v : GVal) (ha : i64ok a) (hl : h.length ≤ 1000) (hf : ∀ c ∈ h, c.fFields.length ≤ 1000) : heap_Put h a i v = some (putS' h a i v) := by
  unfold heap_Put putS'
  rw [heap_Get_eq h a i ha, own_eq h hl]
  simp only [obs]
  by_cases h0 : (getS h a i).2 = 0
  · obtain ⟨h1, h2, c, v', hc, hv⟩ := getS_zero h0
    rw [w64 (by omega) (by have := ha.2; omega), hc]
    have hcm : c ∈ h := List.mem_of_getElem? (idx_spec hc).2.1
    simp only [h0, bne_self_eq_false, Bool.false_eq_true, if_false, obs, ne_eq, not_true, clone_eq _ (hf c hcm), hv]
  · simp [h0]
theorem ref35_Put_eq (h : List GCell) (a i : Int) (v : GVal) (ha : i64ok a) (hl : h.length ≤ 1000) (hf : ∀ c ∈ h, c.fFields.length ≤ 1000) : ref35_Put h a i v = some (putS' h a i v) := by
  unfold ref35_Put putS'
  rw [ref35_Get_eq h a i ha]
  simp only [obs, List.nil_append, List.length_nil]
  by_cases h0 : (getS h a i).2 = 0
  · obtain ⟨h1, h2, c, v', hc, hv⟩ := getS_zero h0
    rw [w64 (by omega) (by have := ha.2; omega), hc]
    have hcm : c ∈ h := List.mem_of_getElem? (idx_spec hc).2.1
    have hcf := hf c hcm
    simp only [h0, bne_self_eq_false, Bool.false_eq_true, if_false, obs, ne_eq, not_true, hv]
    rw [room_ok (by omega), room_ok (by omega)]
    simp only [obs]
  · simp [h0]
def newS (h : List GCell) (c : GCell) : List GCell × Int := (h ++ [{ c with fDead := false }], (h.length : Int) + 1)
theorem heap_New_eq (h : List GCell) (c : GCell) (hl : h.length ≤ 1000) (hf : c.fFields.length ≤ 1000) : heap_New h c = some (newS h c) := by
  unfold heap_New newS
  rw [clone_eq _ hf, own_eq h hl]
  simp only [obs]
  rw [room_ok (by rw [List.length_singleton]; omega), w64 (by omega) (by omega)]
  simp only [obs]
theorem ref35_New_eq (h : List GCell) (c : GCell) (hl : h.length ≤ 1000) (hf : c.fFields.length ≤ 1000) : ref35_New h c = some (newS h c) := by
  unfold ref35_New newS
  simp only [List.nil_append, List.length_nil]
  rw [room_ok (by omega), room_ok (by omega), room_ok (by rw [List.length_singleton]; omega), w64 (by omega) (by omega)]
  simp only [obs]

theorem vals_L1 (l : List GVal) (hl : l.length ≤ 9223372036854775807) : ∀ (n k : Nat), k ≤ l.length → l.length - k < n → ref35_Vals_L1 l l n (k : Int) = some (.next ()) := by
  intro n
  induction n with
  | zero => intro k _ h; omega
  | succ n ih =>
    intro k hk hn
    unfold ref35_Vals_L1
    by_cases h : (k : Int) < (l.length : Int)
    · have hk' : k < l.length := by omega
      simp only [h, decide_true, if_true, idx_lt hk', obs, bGVal_refl, Bool.not_true, Bool.false_eq_true, if_false]
      rw [w64_succ hk' hl, ih (k + 1) (by omega) (by omega)]
    · simp [h]
theorem vals_refl (l : List GVal) (hl : l.length ≤ 9223372036854775807) : ref35_Vals l l = some true := by
  unfold ref35_Vals
  have := vals_L1 l hl ((((l.length : Int)) - (0)).toNat + 1) 0 (by omega) (by omega)
  rw [show ((0 : Nat) : Int) = 0 from rfl] at this
  rw [this]; simp [Ctl.elim]
theorem same_L1 (l : List GCell) (hl : l.length ≤ 9223372036854775807) (hf : ∀ c ∈ l, c.fFields.length ≤ 1000) : ∀ (n k : Nat), k ≤ l.length → l.length - k < n → ref35_Same_L1 l l n (k : Int) = some (.next ()) := by
  intro n
  induction n with
  | zero => intro k _ h; omega
  | succ n ih =>
    intro k hk hn
    unfold ref35_Same_L1
    by_cases h : (k : Int) < (l.length : Int)
    · have hk' : k < l.length := by omega
      have hv := vals_refl l[k].fFields (by have := hf _ (List.getElem_mem hk'); omega)
      simp only [h, decide_true, if_true, idx_lt hk', obs, beq_self_eq_true, bA4_refl, hv, Bool.not_true, Bool.false_eq_true, if_false]
      rw [w64_succ hk' hl, ih (k + 1) (by omega) (by omega)]
    · simp [h]
theorem same_refl (l : List GCell) (hl : l.length ≤ 9223372036854775807) (hf : ∀ c ∈ l, c.fFields.length ≤ 1000) : ref35_Same l l = some true := by
  unfold ref35_Same
  have := same_L1 l hl hf ((((l.length : Int)) - (0)).toNat + 1) 0 (by omega) (by omega)
  rw [show ((0 : Nat) : Int) = 0 from rfl] at this
  rw [this]; simp [Ctl.elim]
theorem awake35 : law35_awake = some true := by decide +kernel

theorem putS'_len (h : List GCell) (a i : Int) (v : GVal) (hl : h.length ≤ 200) (hf : ∀ c ∈ h, c.fFields.length ≤ 60) : (putS' h a i v).1.length ≤ 200 ∧ ∀ c ∈ (putS' h a i v).1, c.fFields.length ≤ 60 := by
  unfold putS'
  split
  · simp
  · split
    · rename_i c hc
      have hcm : c ∈ h := List.mem_of_getElem? (idx_spec hc).2.1
      refine ⟨by simpa using hl, fun x hx => ?_⟩
      rcases List.mem_or_eq_of_mem_set hx with hx | hx
      · exact hf x hx
      · subst hx; simpa using hf c hcm
    · simp

theorem law35_HeapTells_true {h : List GCell} {s : GSlot_law35} {c : GCell} (hh : listok goodGCell h) (hs : goodGSlot_law35 s) (_ : goodGCell c) : law35_HeapTells h s c = some true := by
  have hl := hh.1
  simp only [maxLen] at hl
  unfold law35_HeapTells
  rcases great_spec h hl with hg | ⟨hg, hl2, hf⟩
  · simp [hg, awake35]
  · simp only [hg, obs, Bool.false_eq_true, if_false]
    by_cases h2 : (c.fFields.length : Int) > 60
    · simp [h2, awake35]
    · have ha : i64ok s.fAt := hs.1
      have hf' : ∀ c ∈ h, c.fFields.length ≤ 1000 := fun c hc => by have := hf c hc; omega
      obtain ⟨p1, p2⟩ := putS'_len h s.fAt s.fI s.fV hl2 hf
      simp only [h2, decide_false, Bool.false_eq_true, if_false, heap_Get_eq h _ _ ha, ref35_Get_eq h _ _ ha, heap_Put_eq h _ _ _ ha (by omega) hf', ref35_Put_eq h _ _ _ ha (by omega) hf', heap_New_eq h c (by omega) (by omega), ref35_New_eq h c (by omega) (by omega), heap_Ask_eq h _ ha, ref35_Ask_eq h _ ha, obs, beq_self_eq_true, bGVal_refl, if_true]
      rw [same_refl _ (by omega) (fun c hc => by have := p2 c hc; omega)]
      simp only [obs, if_true]
      rw [same_refl _ (by simp [newS]; omega) (fun x hx => by
        simp only [newS, List.mem_append, List.mem_singleton] at hx
        rcases hx with hx | hx
        · exact hf' x hx
        · subst hx; show c.fFields.length ≤ 1000; omega)]
      simp [awake35]
end Go.Proofs.Ytdffghiejjaomaa
