/- A part of the proof that the law HeapPut gives true for every input. -/
import Derived.Test.YtdffghiejjaomaaAbsS
import Derived.Test.YtdffghiejjaomaaHeapPutT
import Derived.Test.YtdffghiejjaomaaHeapPutD
import Derived.Test.YtdffghiejjaomaaHeapPutL2
/- HeapPut: the plain law. -/
namespace Go.Proofs.Ytdffghiejjaomaa
open Go.RowKit Go.Abs

theorem idx_set {α : Type} {l : List α} {n : Int} (m : Int) {x : α} (h0 : 0 ≤ n) (hn : n < l.length) : idx (l.set n.toNat x) m = if m = n then some x else idx l m := by
  unfold idx
  by_cases hm : 0 ≤ m
  · rw [if_pos hm, if_pos hm, List.getElem?_set]
    by_cases e : m = n
    · subst e; simp; omega
    · rw [if_neg e, if_neg (by omega)]
  · rw [if_neg hm, if_neg hm, if_neg (by omega)]
theorem askS_set {h : List GCell} {n : Int} {c c' : GCell} (hc : idx h n = some c) (hd : c'.fDead = c.fDead) (a : Int) : askS (h.set n.toNat c') a = askS h a := by
  obtain ⟨h0, _, hn⟩ := idx_spec hc
  unfold askS
  by_cases h1 : a < 1
  · simp [h1]
  · simp only [h1, if_false]
    rw [idx_set _ h0 hn]
    by_cases e : a - 1 = n
    · subst e; rw [if_pos rfl, hc]; simp only [hd]
    · rw [if_neg e]
theorem getS_put {h : List GCell} {a i : Int} {v : GVal} (hz : (getS h a i).2 = 0) (a' i' : Int) : getS (putS' h a i v).1 a' i' = if a = a' ∧ i = i' then (v, 0) else getS h a' i' := by
  obtain ⟨h1, h2, c, v0, hc, hv⟩ := getS_zero hz
  have hp : (putS' h a i v).1 = h.set (a - 1).toNat { c with fFields := c.fFields.set i.toNat v } := by
    unfold putS'; simp [hz, hc]
  rw [hp]
  obtain ⟨q0, _, qn⟩ := idx_spec hc
  obtain ⟨r0, _, rn⟩ := idx_spec hv
  have hask : askS h a = 0 := by
    unfold getS at hz
    split at hz
    · exact hz
    · rename_i h; simpa using h
  conv => lhs; unfold getS
  rw [askS_set (c' := { c with fFields := c.fFields.set i.toNat v }) hc rfl a', idx_set _ q0 qn]
  by_cases e : a' = a
  · subst e
    simp only [hask, ne_eq, not_true, if_false, if_true, Option.bind_some]
    rw [idx_set _ r0 rn]
    by_cases e2 : i' = i
    · subst e2; simp
    · rw [if_neg e2, if_neg (by intro h; exact e2 h.2.symm)]
      unfold getS
      simp [hask, hc]
  · rw [if_neg (show ¬ (a' - 1 = a - 1) by omega), if_neg (show ¬ (a = a' ∧ i = i') from fun h => e h.1.symm)]
    rfl

def liveS : List GCell → Nat → List Int
  | [], _ => []
  | c :: t, k => (if c.fDead then [] else [((k + 1 : Nat) : Int)]) ++ liveS t (k + 1)
theorem liveS_set : ∀ (h : List GCell) (j k : Nat) (c c' : GCell), h[j]? = some c → c'.fDead = c.fDead → liveS (h.set j c') k = liveS h k
  | [], j, k, c, c', h, _ => by simp at h
  | x :: t, 0, k, c, c', h, hd => by simp at h; subst h; simp [liveS, hd]
  | x :: t, j + 1, k, c, c', h, hd => by simp at h; simp [liveS, liveS_set t j (k + 1) c c' h hd]
theorem liveS_len : ∀ (h : List GCell) (k : Nat), (liveS h k).length ≤ h.length
  | [], k => by simp [liveS]
  | x :: t, k => by
    have := liveS_len t (k + 1)
    simp only [liveS, List.length_append, List.length_cons]
    split <;> simp <;> omega
theorem heap_Live_L1_eq (h : List GCell) (hl : h.length ≤ 1000) : ∀ (n k : Nat) (r : List Int), k ≤ h.length → h.length - k < n → r.length ≤ k → heap_Live_L1 h n r (k : Int) = some (r ++ liveS (h.drop k) k) := by
  intro n
  induction n with
  | zero => intro k r _ h; omega
  | succ n ih =>
    intro k r hk hn hr
    unfold heap_Live_L1
    by_cases h1 : (k : Int) < (h.length : Int)
    · have hk' : k < h.length := by omega
      have hw : w_i64 ((k : Int) + 1) = ((k + 1 : Nat) : Int) := w64_succ hk' (by omega)
      simp only [h1, decide_true, if_true, idx_lt hk', obs, hw]
      rw [room_ok (by rw [List.length_singleton]; omega)]
      rw [List.drop_eq_getElem_cons hk']
      by_cases hd : h[k].fDead = true
      · simp only [hd, Bool.not_true, Bool.false_eq_true, if_false, obs]
        rw [ih (k + 1) r (by omega) (by omega) (by omega)]
        simp [liveS, hd]
      · simp only [hd, Bool.not_false, if_true, obs]
        rw [ih (k + 1) _ (by omega) (by omega) (by simp; omega)]
        simp [liveS, hd]
    · have hk' : k = h.length := by omega
      subst hk'
      simp [liveS]
theorem heap_Live_eq (h : List GCell) (hl : h.length ≤ 1000) : heap_Live h = some (liveS h 0) := by
  unfold heap_Live
  have := heap_Live_L1_eq h hl ((((h.length : Int)) - (0)).toNat + 1) 0 [] (by omega) (by omega) (by simp)
  rw [show ((0 : Nat) : Int) = 0 from rfl] at this
  rw [this]; simp only [obs]; simp

theorem copy_L1 (h : List GCell) (hl : h.length ≤ 1000) (hf : ∀ c ∈ h, c.fFields.length ≤ 1000) : ∀ (n k : Nat) (r : List GCell), k ≤ h.length → h.length - k < n → r.length = k → law35_HeapPut_L1 h n r (k : Int) = some (r ++ h.drop k) := by
  intro n
  induction n with
  | zero => intro k r _ h; omega
  | succ n ih =>
    intro k r hk hn hr
    unfold law35_HeapPut_L1
    by_cases h1 : (k : Int) < (h.length : Int)
    · have hk' : k < h.length := by omega
      have hfk := hf _ (List.getElem_mem hk')
      simp only [h1, decide_true, if_true, idx_lt hk', obs, List.nil_append, List.length_nil]
      rw [room_ok (by omega), room_ok (by rw [hr, List.length_singleton]; omega)]
      simp only [obs]
      rw [w64_succ hk' (by omega), ih (k + 1) _ (by omega) (by omega) (by simp; omega)]
      rw [List.drop_eq_getElem_cons hk', List.append_assoc]
      rfl
    · have hk' : k = h.length := by omega
      subst hk'
      simp

theorem askS_new (h : List GCell) (c : GCell) : askS (newS h c).1 ((h.length : Int) + 1) = 0 := by
  unfold askS newS
  rw [if_neg (by omega), if_neg (by omega)]
  rw [show (h.length : Int) + 1 - 1 = ((h.length : Nat) : Int) by omega, idx_nat]
  simp

theorem law35_HeapPut_true {h : List GCell} {s : A2 GSlot_law35} {c : GCell} (hh : listok goodGCell h) (hs : goodGSlot_law35 s.a0 ∧ goodGSlot_law35 s.a1) (_ : goodGCell c) : law35_HeapPut h s c = some true := by
  have hl := hh.1
  simp only [maxLen] at hl
  unfold law35_HeapPut
  rcases great_spec h hl with hg | ⟨hg, hl2, hf⟩
  · simp [hg, awake35]
  · simp only [hg, obs, Bool.false_eq_true, if_false]
    by_cases h2 : (c.fFields.length : Int) > 60
    · simp [h2, awake35]
    · have ha : i64ok s.a0.fAt := hs.1.1
      have ha1 : i64ok s.a1.fAt := hs.2.1
      have hf' : ∀ c ∈ h, c.fFields.length ≤ 1000 := fun c hc => by have := hf c hc; omega
      have hcopy := copy_L1 h (by omega) hf' ((((h.length : Int)) - (0)).toNat + 1) 0 [] (by omega) (by omega) rfl
      rw [show ((0 : Nat) : Int) = 0 from rfl, List.nil_append, List.drop_zero] at hcopy
      have hcut : cutL (newS h c).1 0 (h.length : Int) = some h := by
        unfold cutL newS
        rw [if_pos (by refine ⟨by omega, by omega, ?_⟩; simp; omega)]
        simp
      have hw : w_i64 ((h.length : Int) + 1) = (h.length : Int) + 1 := w64 (by omega) (by omega)
      have hn2 : (newS h c).2 = (h.length : Int) + 1 := rfl
      have hnl : (((newS h c).1.length : Nat) : Int) = (h.length : Int) + 1 := by simp [newS]
      have hask : heap_Ask (newS h c).1 ((h.length : Int) + 1) = some 0 := by rw [heap_Ask_eq _ _ ⟨by omega, by omega⟩, askS_new]
      simp only [h2, decide_false, Bool.false_eq_true, if_false, hcopy, heap_Get_eq h _ _ ha1, heap_Put_eq h _ _ _ ha (by omega) hf', heap_New_eq h c (by omega) (by omega), same_refl h (by omega) hf', obs, Bool.not_true, hn2, hnl, hw, bne_self_eq_false, hcut, hask]
      by_cases hz : (getS h s.a0.fAt s.a0.fI).2 = 0
      · have hp2 : (putS' h s.a0.fAt s.a0.fI s.a0.fV).2 = 0 := by
          unfold putS'; rw [if_neg (by simpa using hz)]; split <;> rfl
        obtain ⟨p1, p2⟩ := putS'_len h s.a0.fAt s.a0.fI s.a0.fV hl2 hf
        obtain ⟨g1, g2, c0, v0, hc0, hv0⟩ := getS_zero hz
        have hp : (putS' h s.a0.fAt s.a0.fI s.a0.fV).1 = h.set (s.a0.fAt - 1).toNat { c0 with fFields := c0.fFields.set s.a0.fI.toNat s.a0.fV } := by
          unfold putS'; simp [hz, hc0]
        have hlen : (putS' h s.a0.fAt s.a0.fI s.a0.fV).1.length = h.length := by rw [hp]; simp
        have hlive : liveS (putS' h s.a0.fAt s.a0.fI s.a0.fV).1 0 = liveS h 0 := by rw [hp]; exact liveS_set h _ 0 c0 _ (idx_spec hc0).2.1 rfl
        simp only [hp2, bne_self_eq_false, Bool.false_eq_true, if_false, heap_Get_eq _ _ _ ha1, getS_put hz, obs, heap_Live_eq _ (show (putS' h s.a0.fAt s.a0.fI s.a0.fV).1.length ≤ 1000 by omega), heap_Live_eq h (by omega), hlive, hlen, awake35, beq_self_eq_true, if_true]
        by_cases e1 : s.a0.fAt = s.a1.fAt
        · by_cases e2 : s.a0.fI = s.a1.fI
          · simp [e1, e2, bGVal_refl]
          · simp [e1, e2, bGVal_refl]
        · simp [e1, bGVal_refl]
      · have hp : putS' h s.a0.fAt s.a0.fI s.a0.fV = ([], (getS h s.a0.fAt s.a0.fI).2) := by unfold putS'; rw [if_pos (by simpa using hz)]
        simp [hp, hz, awake35]
end Go.Proofs.Ytdffghiejjaomaa
