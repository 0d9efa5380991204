/- A part of the proof that the law FrameSet gives true for every input. -/
import Derived.Test.YtelohaajmagpbaaFrameSetA2
import Derived.Test.YtelohaajmagpbaaFrameSetA3
import Derived.Test.YtelohaajmagpbaaFrameSetT
import Derived.Test.YtelohaajmagpbaaFrameSetD
/- The plain law. -/
namespace Go.Proofs.Ytelohaajmagpbaa
open Go.RowKit Go.Abs
/-! ### The first class of a name. -/
def fiN : List GClass → Nat → List UInt8 → Option Nat
  | [], _, _ => none
  | c :: t, k, name => if c.fName == name then some k else fiN t (k + 1) name
def fi (p : List GClass) (name : List UInt8) : Option Nat := fiN p 0 name
def fnd (p : List GClass) (name : List UInt8) : Int := match fi p name with | some i => (i : Int) | none => -1
theorem fiN_spec : ∀ (l : List GClass) (k : Nat) (name : List UInt8) (i : Nat), fiN l k name = some i → k ≤ i ∧ ∃ c, l[i - k]? = some c ∧ c.fName = name
  | [], k, name, i, h => by simp [fiN] at h
  | c :: t, k, name, i, h => by
    simp only [fiN] at h
    split at h
    · rename_i hc
      cases h
      exact ⟨Nat.le_refl _, c, by simp, by simpa using hc⟩
    · obtain ⟨h1, c', h2, h3⟩ := fiN_spec t (k + 1) name i h
      refine ⟨by omega, c', ?_, h3⟩
      rw [show i - k = (i - (k + 1)) + 1 by omega, List.getElem?_cons_succ]
      exact h2
theorem fiN_some : ∀ (l : List GClass) (k : Nat) (c : GClass), c ∈ l → ∃ i, fiN l k c.fName = some i
  | [], k, c, h => by simp at h
  | c' :: t, k, c, h => by
    simp only [fiN]
    split
    · exact ⟨k, rfl⟩
    · rename_i hc
      rcases List.mem_cons.1 h with rfl | h
      · simp at hc
      · exact fiN_some t (k + 1) c h
theorem fi_spec {p : List GClass} {name : List UInt8} {i : Nat} (h : fi p name = some i) : ∃ c, p[i]? = some c ∧ c.fName = name := by
  obtain ⟨_, c, h1, h2⟩ := fiN_spec p 0 name i h
  exact ⟨c, by simpa using h1, h2⟩
theorem fi_lt {p : List GClass} {name : List UInt8} {i : Nat} (h : fi p name = some i) : i < p.length := by
  obtain ⟨c, h1, _⟩ := fi_spec h
  exact (List.getElem?_eq_some_iff.1 h1).1
theorem fi_some {p : List GClass} {c : GClass} (h : c ∈ p) : ∃ i, fi p c.fName = some i := fiN_some p 0 c h
theorem fnd_some {p : List GClass} {name : List UInt8} {i : Nat} (h : fi p name = some i) : fnd p name = (i : Int) := by unfold fnd; rw [h]
theorem fnd_none {p : List GClass} {name : List UInt8} (h : fi p name = none) : fnd p name = -1 := by unfold fnd; rw [h]
/-- What a loop over a list that stops at the first hit comes to. -/
def hit (o : Option Nat) : Ctl Int Unit := match o with | some i => .stop (i : Int) | none => .next ()

theorem indexFunc_L {p : List GClass} (name : List UInt8) (hp : p.length < 9223372036854775806) : ∀ (n k : Nat), n + k = p.length + 1 → k ≤ p.length →
    slices_IndexFunc_api_Class_L1 p (fun (z1 : GClass) => table_Find_1 z1 name) n (k : Int) = some (hit (fiN (p.drop k) k name))
  | 0, k, h, hk => by omega
  | n + 1, k, h, hk => by
    simp only [slices_IndexFunc_api_Class_L1]
    by_cases hlt : k < p.length
    · rw [if_pos (by simpa using hlt), idx_lt hlt, List.drop_eq_getElem_cons hlt]
      simp only [obs, table_Find_1, fiN]
      by_cases hc : (p[k].fName == name) = true
      · rw [if_pos hc, if_pos hc]; rfl
      · rw [if_neg hc, if_neg hc, w64_succ hlt (by omega)]
        exact indexFunc_L name hp n (k + 1) (by omega) (by omega)
    · rw [if_neg (by simpa using hlt), List.drop_eq_nil_of_le (by omega)]
      rfl
theorem table_Find_eq {p : List GClass} (hp : p.length < 9223372036854775806) (name : List UInt8) : table_Find p name = some (fnd p name) := by
  unfold table_Find slices_IndexFunc_api_Class
  have h := indexFunc_L name hp (p.length + 1) 0 (by omega) (by omega)
  rw [show (((p.length : Int) : Int) - (0)).toNat + 1 = p.length + 1 by omega, show (0 : Int) = ((0 : Nat) : Int) from rfl, h]
  simp only [List.drop_zero, obs]
  unfold fnd fi hit
  cases fiN p 0 name <;> rfl

theorem ref13_Find_L {p : List GClass} (name : List UInt8) (hp : p.length ≤ 9223372036854775807) : ∀ (n k : Nat), n + k = p.length + 1 → k ≤ p.length →
    ref13_Find_L1 p name n (k : Int) = some (hit (fiN (p.drop k) k name))
  | 0, k, h, hk => by omega
  | n + 1, k, h, hk => by
    simp only [ref13_Find_L1]
    by_cases hlt : k < p.length
    · rw [if_pos (by simpa using hlt), idx_lt hlt, List.drop_eq_getElem_cons hlt]
      simp only [obs, fiN]
      by_cases hc : (p[k].fName == name) = true
      · rw [if_pos hc, if_pos hc]; rfl
      · rw [if_neg hc, if_neg hc, w64_succ hlt (by omega)]
        exact ref13_Find_L name hp n (k + 1) (by omega) (by omega)
    · rw [if_neg (by simpa using hlt), List.drop_eq_nil_of_le (by omega)]
      rfl
theorem ref13_Find_eq {p : List GClass} (hp : p.length ≤ 9223372036854775807) (name : List UInt8) : ref13_Find p name = some (fnd p name) := by
  unfold ref13_Find
  have h := ref13_Find_L name hp (p.length + 1) 0 (by omega) (by omega)
  rw [show (((p.length : Int) : Int) - (0)).toNat + 1 = p.length + 1 by omega, show (0 : Int) = ((0 : Nat) : Int) from rfl, h]
  simp only [List.drop_zero, obs]
  unfold fnd fi hit
  cases fiN p 0 name <;> rfl

/-! ### The walk up. -/
/-- The class that stands at `i`, its name's super. -/
def sup (p : List GClass) (i : Nat) : List UInt8 := match p[i]? with | some c => c.fSuper | none => []
def upN (p : List GClass) : Nat → List UInt8 → List Nat
  | 0, _ => []
  | n + 1, name => match fi p name with
    | none => []
    | some i => if sup p i == [] then [i] else i :: upN p n (sup p i)
theorem itR_up_n_eq {p : List GClass} (hp : p.length < 9223372036854775806) : ∀ (n : Nat) (name : List UInt8), itR_up_n p n name = some ((upN p n name).map Int.ofNat)
  | 0, name => rfl
  | n + 1, name => by
    simp only [itR_up_n, upN, table_Find_eq hp, obs]
    cases hf : fi p name with
    | none => rw [fnd_none hf]; simp
    | some i =>
      rw [fnd_some hf, if_neg (by omega)]
      obtain ⟨c, hc, _⟩ := fi_spec hf
      have hidx : idx p (i : Int) = some c := by rw [idx_nat]; exact hc
      rw [hidx]
      have hs : sup p i = c.fSuper := by unfold sup; rw [hc]
      simp only [obs, hs]
      by_cases he : (c.fSuper == []) = true
      · rw [if_pos he, if_pos he]; rfl
      · rw [if_neg he, if_neg he, itR_up_n_eq hp n c.fSuper]; rfl
theorem itR_up_eq {p : List GClass} (hp : p.length < 9223372036854775806) (name : List UInt8) : itR_up p name = some ((upN p (p.length + 1) name).map Int.ofNat) := by
  unfold itR_up; rw [if_pos hp, itR_up_n_eq hp]

/-- The chain: up to the first one that comes twice. -/
def chN (p : List GClass) : Nat → List Nat → List UInt8 → List Nat
  | 0, out, _ => out
  | n + 1, out, name => match fi p name with
    | none => out
    | some i => if i ∈ out then out else if sup p i == [] then out ++ [i] else chN p n (out ++ [i]) (sup p i)
def ch (p : List GClass) (name : List UInt8) : List Nat := chN p (p.length + 1) [] name

theorem nodup_len : ∀ (L : Nat) (l : List Nat), l.Nodup → (∀ x ∈ l, x < L) → l.length ≤ L
  | 0, l, _, h => by
    cases l with
    | nil => exact Nat.le_refl _
    | cons x l => have := h x (by simp); omega
  | L + 1, l, hn, h => by
    have h1 := nodup_len L (l.erase L) (hn.erase L) (fun x hx => by
      have := (hn.mem_erase_iff.1 hx)
      have := h x this.2
      omega)
    by_cases hm : L ∈ l
    · have := List.length_erase_of_mem hm; omega
    · rw [List.erase_of_not_mem hm] at h1; omega

/-- What holds on the way up. -/
structure Way (p : List GClass) (out : List Nat) (name : List UInt8) : Prop where
  nd : out.Nodup
  lt : ∀ x ∈ out, x < p.length
  nx : ∀ x ∈ out, sup p x ≠ [] ∧ (sup p x = name ∨ ∃ j, fi p (sup p x) = some j ∧ j ∈ out)
  own : ∀ x ∈ out, ∃ nm, fi p nm = some x

theorem Way.nil (p : List GClass) (name : List UInt8) : Way p [] name := ⟨List.nodup_nil, by simp, by simp, by simp⟩
theorem Way.snoc {p : List GClass} {out : List Nat} {name : List UInt8} {i : Nat} (h : Way p out name) (hf : fi p name = some i) (hi : i ∉ out) (hs : sup p i ≠ []) : Way p (out ++ [i]) (sup p i) := by
  refine ⟨?_, fun x hx => ?_, fun x hx => ?_, fun x hx => ?_⟩
  · refine List.nodup_append.2 ⟨h.nd, by simp, fun a ha b hb => ?_⟩
    simp at hb; subst hb; rintro rfl; exact hi ha
  · rcases List.mem_append.1 hx with hx | hx
    · exact h.lt x hx
    · simp at hx; subst hx; exact fi_lt hf
  · rcases List.mem_append.1 hx with hx | hx
    · obtain ⟨h1, h2⟩ := h.nx x hx
      refine ⟨h1, .inr ?_⟩
      rcases h2 with h2 | ⟨j, h2, h3⟩
      · exact ⟨i, by rw [h2]; exact hf, by simp⟩
      · exact ⟨j, h2, by simp [h3]⟩
    · simp at hx; subst hx; exact ⟨hs, .inl rfl⟩
  · rcases List.mem_append.1 hx with hx | hx
    · exact h.own x hx
    · simp at hx; subst hx; exact ⟨name, hf⟩

/-- A set of classes that one does not leave upwards. -/
def Shut (p : List GClass) (S : List Nat) : Prop := ∀ x ∈ S, sup p x ≠ [] → ∀ j, fi p (sup p x) = some j → j ∈ S
theorem upN_shut {p : List GClass} {S : List Nat} (h : Shut p S) : ∀ (n : Nat) (name : List UInt8), (∀ j, fi p name = some j → j ∈ S) → ∀ x ∈ upN p n name, x ∈ S
  | 0, name, _, x, hx => by simp [upN] at hx
  | n + 1, name, hs, x, hx => by
    simp only [upN] at hx
    cases hf : fi p name with
    | none => rw [hf] at hx; simp at hx
    | some i =>
      rw [hf] at hx
      have hi := hs i hf
      simp only at hx
      split at hx
      · simp at hx; subst hx; exact hi
      · rename_i he
        rcases List.mem_cons.1 hx with rfl | hx
        · exact hi
        · exact upN_shut h n _ (fun j hj => h i hi (by simpa using he) j hj) x hx
/-- .. where each has one above it: the walk never ends. -/
theorem upN_round {p : List GClass} {S : List Nat} (h : ∀ x ∈ S, sup p x ≠ [] ∧ ∃ j, fi p (sup p x) = some j ∧ j ∈ S) : ∀ (n : Nat) (name : List UInt8) (i : Nat), fi p name = some i → i ∈ S → (upN p n name).length = n
  | 0, name, i, _, _ => rfl
  | n + 1, name, i, hf, hi => by
    obtain ⟨h1, j, h2, h3⟩ := h i hi
    simp only [upN, hf]
    rw [if_neg (by simpa using h1)]
    simp [upN_round h n _ j h2 h3]

/-- Did the chain end because one came twice? -/
def back (p : List GClass) (l : List Nat) : Bool := match l.getLast? with
  | none => false
  | some i => !(sup p i == []) && (match fi p (sup p i) with | some j => decide (j ∈ l) | none => false)

/-- **The walk and the chain.** -/
theorem upN_chN {p : List GClass} : ∀ (n : Nat) (out : List Nat) (name : List UInt8), n + out.length = p.length + 1 → Way p out name → (out = [] ∨ ∃ x, out.getLast? = some x ∧ sup p x = name) →
    ∃ R, out ++ upN p n name = chN p n out name ++ R ∧ (∀ x ∈ R, x ∈ chN p n out name) ∧ (∀ x ∈ out, x ∈ chN p n out name) ∧ (∀ j, fi p name = some j → j ∈ chN p n out name) ∧ Shut p (chN p n out name) ∧ (chN p n out name).Nodup ∧ (∀ x ∈ chN p n out name, x < p.length ∧ ∃ nm, fi p nm = some x) ∧
      (back p (chN p n out name) = decide ((upN p n name).length = n))
  | 0, out, name, hn, hw, hl => by
    exfalso
    have := nodup_len p.length out hw.nd hw.lt
    omega
  | n + 1, out, name, hn, hw, hl => by
    have hlen := nodup_len p.length out hw.nd hw.lt
    cases hf : fi p name with
    | none =>
      simp only [upN, chN, hf]
      refine ⟨[], by simp, by simp, fun x hx => hx, by simp, fun x hx hne j hj => ?_, hw.nd, fun x hx => ⟨hw.lt x hx, hw.own x hx⟩, ?_⟩
      · rcases (hw.nx x hx).2 with h1 | ⟨j', h1, h2⟩
        · rw [h1, hf] at hj; cases hj
        · rw [h1] at hj; cases hj; exact h2
      · have : back p out = false := by
          unfold back
          rcases hl with rfl | ⟨x, h1, h2⟩
          · rfl
          · rw [h1]; simp only [h2, hf, Bool.and_false]
        rw [this]; simp
    | some i =>
      simp only [upN, chN, hf]
      by_cases hi : i ∈ out
      · rw [if_pos hi]
        have hround : ∀ x ∈ out, sup p x ≠ [] ∧ ∃ j, fi p (sup p x) = some j ∧ j ∈ out := by
          intro x hx
          obtain ⟨h1, h2⟩ := hw.nx x hx
          refine ⟨h1, ?_⟩
          rcases h2 with h2 | h2
          · exact ⟨i, by rw [h2]; exact hf, hi⟩
          · exact h2
        have hshut : Shut p out := fun x hx _ j hj => by
          obtain ⟨_, j', h1, h2⟩ := hround x hx
          rw [h1] at hj; cases hj; exact h2
        have hsub := upN_shut hshut (n + 1) name (fun j hj => by rw [hf] at hj; cases hj; exact hi)
        have hfull := upN_round hround (n + 1) name i hf hi
        simp only [upN, hf] at hsub hfull
        refine ⟨_, rfl, hsub, fun x hx => hx, fun j hj => by cases hj; exact hi, hshut, hw.nd, fun x hx => ⟨hw.lt x hx, hw.own x hx⟩, ?_⟩
        rw [hfull]
        have : back p out = true := by
          unfold back
          rcases hl with rfl | ⟨x, h1, h2⟩
          · simp at hi
          · have hx : x ∈ out := List.mem_of_getLast? h1
            rw [h1]
            simp only [h2, hf, hi, decide_true, Bool.and_true]
            have := (hw.nx x hx).1
            rw [h2] at this
            simpa using this
        rw [this]; simp
      · rw [if_neg hi]
        by_cases hs : (sup p i == []) = true
        · rw [if_pos hs, if_pos hs]
          have hs' : sup p i = [] := by simpa using hs
          have hw2 : (out ++ [i]).Nodup := List.nodup_append.2 ⟨hw.nd, by simp, fun a ha b hb => by
            simp at hb; subst hb; rintro rfl; exact hi ha⟩
          have hlt2 : ∀ x ∈ out ++ [i], x < p.length := fun x hx => by
            rcases List.mem_append.1 hx with hx | hx
            · exact hw.lt x hx
            · simp at hx; subst hx; exact fi_lt hf
          have hlen2 := nodup_len p.length _ hw2 hlt2
          refine ⟨[], by simp, by simp, fun x hx => by simp [hx], fun j hj => by cases hj; simp, fun x hx hne j hj => ?_, hw2, fun x hx => ⟨hlt2 x hx, ?_⟩, ?_⟩
          · rcases List.mem_append.1 hx with hx | hx
            · rcases (hw.nx x hx).2 with h1 | ⟨j', h1, h2⟩
              · rw [h1, hf] at hj; cases hj; simp
              · rw [h1] at hj; cases hj; simp [h2]
            · simp at hx; subst hx; exact absurd hs' hne
          · rcases List.mem_append.1 hx with hx | hx
            · exact hw.own x hx
            · simp at hx; subst hx; exact ⟨name, hf⟩
          · have : back p (out ++ [i]) = false := by
              unfold back; simp [hs']
            rw [this]
            simp at hlen2
            simp; omega
        · rw [if_neg hs, if_neg hs]
          have hs' : sup p i ≠ [] := by simpa using hs
          obtain ⟨R, k1, k2, k3, k4, k5, k6, k7, k8⟩ := upN_chN n (out ++ [i]) (sup p i) (by simp; omega) (hw.snoc hf hi hs') (.inr ⟨i, by simp, rfl⟩)
          refine ⟨R, by rw [← k1]; simp, k2, fun x hx => k3 x (by simp [hx]), fun j hj => by cases hj; exact k3 i (by simp), k5, k6, k7, ?_⟩
          rw [k8]; simp
/-- The facts about a name's chain. -/
theorem ch_facts (p : List GClass) (name : List UInt8) : ∃ R, upN p (p.length + 1) name = ch p name ++ R ∧ (∀ x ∈ R, x ∈ ch p name) ∧ (∀ j, fi p name = some j → j ∈ ch p name) ∧ Shut p (ch p name) ∧ (ch p name).Nodup ∧ (∀ x ∈ ch p name, x < p.length ∧ ∃ nm, fi p nm = some x) ∧
    (back p (ch p name) = decide ((upN p (p.length + 1) name).length = p.length + 1)) := by
  obtain ⟨R, k1, k2, k3, k4, k5, k6, k7, k8⟩ := upN_chN (p.length + 1) [] name (by simp) (Way.nil p name) (.inl rfl)
  exact ⟨R, by unfold ch; simpa using k1, k2, k4, k5, k6, k7, k8⟩
theorem mem_up {p : List GClass} {name : List UInt8} {x : Nat} : x ∈ upN p (p.length + 1) name ↔ x ∈ ch p name := by
  obtain ⟨R, k1, k2, _⟩ := ch_facts p name
  rw [k1]
  constructor
  · intro h
    rcases List.mem_append.1 h with h | h
    · exact h
    · exact k2 x h
  · intro h; simp [h]

/-! ### Chains, by the program and by the document. -/
theorem idxI_L {l : List Int} (a : Int) (hp : l.length < 9223372036854775806) : ∀ (n k : Nat), n + k = l.length + 1 → k ≤ l.length →
    ∃ r, slices_Index_int_L1 l a n (k : Int) = some r ∧ ((∃ v : Int, r = .stop v ∧ 0 ≤ v ∧ a ∈ l.drop k) ∨ (r = .next () ∧ a ∉ l.drop k))
  | 0, k, h, hk => by omega
  | n + 1, k, h, hk => by
    simp only [slices_Index_int_L1]
    by_cases hlt : k < l.length
    · rw [if_pos (by simpa using hlt), idx_lt hlt, List.drop_eq_getElem_cons hlt]
      simp only [obs]
      by_cases hc : (a == l[k]) = true
      · rw [if_pos hc]
        have hc' : a = l[k] := by simpa using hc
        exact ⟨_, rfl, .inl ⟨_, rfl, by omega, by rw [hc']; exact List.mem_cons_self⟩⟩
      · rw [if_neg hc, w64_succ hlt (by omega)]
        obtain ⟨r, h1, h2⟩ := idxI_L a hp n (k + 1) (by omega) (by omega)
        refine ⟨r, h1, ?_⟩
        have hne : a ≠ l[k] := by simpa using hc
        rcases h2 with ⟨v, h3, h4, h5⟩ | ⟨h3, h4⟩
        · exact .inl ⟨v, h3, h4, List.mem_cons_of_mem _ h5⟩
        · exact .inr ⟨h3, fun hm => (List.mem_cons.1 hm).elim hne h4⟩
    · rw [if_neg (by simpa using hlt), List.drop_eq_nil_of_le (by omega)]
      exact ⟨_, rfl, .inr ⟨rfl, by simp⟩⟩
theorem contains_eq {l : List Int} (hp : l.length < 9223372036854775806) (a : Int) : slices_Contains_int l a = some (decide (a ∈ l)) := by
  unfold slices_Contains_int slices_Index_int
  obtain ⟨r, h1, h2⟩ := idxI_L a hp (l.length + 1) 0 (by omega) (by omega)
  rw [show (((l.length : Int) : Int) - (0)).toNat + 1 = l.length + 1 by omega, show (0 : Int) = ((0 : Nat) : Int) from rfl, h1]
  rcases h2 with ⟨v, rfl, h3, h4⟩ | ⟨rfl, h4⟩
  · simp only [obs, Ctl.elim]
    simp only [List.drop_zero] at h4
    simp [h4, h3]
  · simp only [obs, Ctl.elim]
    simp only [List.drop_zero] at h4
    simp [h4]
theorem mem_cast {i : Nat} {l : List Nat} : ((i : Int) ∈ l.map Int.ofNat) ↔ i ∈ l := by
  rw [List.mem_map]
  constructor
  · rintro ⟨j, h1, h2⟩
    have : j = i := Int.ofNat.inj h2
    exact this ▸ h1
  · intro h; exact ⟨i, h, rfl⟩

theorem chain_runs {p : List GClass} (hp : p.length ≤ 1000000) : ∀ (n : Nat) (out : List Nat) (name : List UInt8), n + out.length = p.length + 1 →
    ∃ r, runs above_Chain_B1 ((upN p n name).map Int.ofNat) (out.map Int.ofNat) = some r ∧ Ctl.elim r (fun x => x) (fun x => x) = (chN p n out name).map Int.ofNat
  | 0, out, name, _ => ⟨_, rfl, rfl⟩
  | n + 1, out, name, hn => by
    have hout : (out.map Int.ofNat).length < 9223372036854775806 := by simp; omega
    have hroom : room (((out.map Int.ofNat).length : Int) + (([(0 : Int)].length : Nat) : Int)) 8 = some () := room_ok (by simp; omega)
    simp only [upN, chN]
    cases hf : fi p name with
    | none => exact ⟨_, rfl, rfl⟩
    | some i =>
      simp only
      have hstep : ∀ rest, runs above_Chain_B1 (((i : Nat) :: rest).map Int.ofNat) (out.map Int.ofNat) = if i ∈ out then some (.stop (out.map Int.ofNat)) else runs above_Chain_B1 (rest.map Int.ofNat) ((out ++ [i]).map Int.ofNat) := by
        intro rest
        simp only [List.map_cons, runs, above_Chain_B1]
        rw [contains_eq hout]
        simp only [obs]
        by_cases hi : i ∈ out
        · have : Int.ofNat i ∈ out.map Int.ofNat := mem_cast.2 hi
          rw [if_pos hi, if_pos (by simpa using this)]
          rfl
        · have hni : ¬ Int.ofNat i ∈ out.map Int.ofNat := fun h => hi (mem_cast.1 h)
          rw [if_neg hi, if_neg (by simpa using hni)]
          rw [show (([Int.ofNat i].length : Nat) : Int) = (([(0 : Int)].length : Nat) : Int) from rfl, hroom]
          simp [obs, Ctl.elim]
      by_cases hi : i ∈ out
      · rw [if_pos hi]
        split
        · rw [hstep, if_pos hi]; exact ⟨_, rfl, rfl⟩
        · rw [hstep, if_pos hi]; exact ⟨_, rfl, rfl⟩
      · rw [if_neg hi]
        by_cases hs : (sup p i == []) = true
        · rw [if_pos hs, if_pos hs, hstep, if_neg hi]
          exact ⟨_, rfl, rfl⟩
        · rw [if_neg hs, if_neg hs, hstep, if_neg hi]
          exact chain_runs hp n (out ++ [i]) (sup p i) (by simp; omega)
theorem above_Chain_eq {p : List GClass} (hp : p.length ≤ 1000000) (name : List UInt8) : above_Chain p name = some ((ch p name).map Int.ofNat) := by
  unfold above_Chain above_up
  simp only [obs]
  rw [itR_up_eq (by omega)]
  simp only [obs]
  obtain ⟨r, h1, h2⟩ := chain_runs hp (p.length + 1) [] name (by simp)
  rw [show ([] : List Int) = ([] : List Nat).map Int.ofNat from rfl, h1]
  unfold ch
  rw [← h2]
  cases r <;> rfl
theorem ch_len (p : List GClass) (name : List UInt8) : (ch p name).length ≤ p.length := by
  obtain ⟨_, _, _, _, _, k6, k7, _⟩ := ch_facts p name
  exact nodup_len _ _ k6 (fun x hx => (k7 x hx).1)
theorem ch_ne {p : List GClass} {name : List UInt8} {i : Nat} (h : fi p name = some i) : ch p name ≠ [] := by
  obtain ⟨_, _, _, k4, _⟩ := ch_facts p name
  intro e
  have := k4 i h
  rw [e] at this; simp at this

/-! ### A class is raised to itself. -/
theorem chN_head {p : List GClass} : ∀ (n : Nat) (out : List Nat) (name : List UInt8) (i : Nat), out.head? = some i → (chN p n out name).head? = some i
  | 0, _, _, _, h => h
  | n + 1, out, name, i, h => by
    have ha : ∀ j : Nat, (out ++ [j]).head? = some i := fun j => by cases out with | nil => cases h | cons a t => exact h
    unfold chN
    split
    · exact h
    · split
      · exact h
      · split
        · exact ha _
        · exact chN_head n _ _ i (ha _)
theorem ch_head {p : List GClass} {name : List UInt8} {i : Nat} (h : fi p name = some i) : (ch p name).head? = some i := by
  unfold ch chN
  rw [h]
  show (if i ∈ [] then [] else if (sup p i == []) = true then [] ++ [i] else chN p p.length ([] ++ [i]) (sup p i)).head? = some i
  rw [if_neg (by simp)]
  split
  · rfl
  · exact chN_head _ _ _ _ rfl

/-! ### The owners of a type. -/
/-- How many owners stand behind the class. -/
def cnt3 (n : Int) : Nat := if n ≤ 0 then 0 else if 3 ≤ n then 3 else n.toNat
theorem cnt3_le (n : Int) : cnt3 n ≤ 3 := by unfold cnt3; split; omega; split; omega; omega
theorem cnt3_ite (n : Int) : (if (if 3 < n then 3 else n) > 0 then (if 3 < n then 3 else n) else 0) = ((cnt3 n : Nat) : Int) := by
  unfold cnt3
  by_cases h : n ≤ 0
  · rw [if_neg (show ¬ 3 < n by omega), if_neg (show ¬ n > 0 by omega), if_pos h]; rfl
  · by_cases h3 : 3 ≤ n
    · by_cases h4 : 3 < n
      · simp only [if_pos h4, if_neg h, if_pos h3]; omega
      · simp only [if_neg h4, if_neg h, if_pos h3]; rw [if_pos (by omega)]; omega
    · simp only [if_neg (show ¬ 3 < n by omega), if_neg h, if_neg h3]; rw [if_pos (by omega)]; omega
def own (t : GType) : List GOwner := if t.fKind = 2 then t.fOwn.l.take (cnt3 t.fN + 1) else []
theorem A4_len {α : Type} (x : A4 α) : x.l.length = 4 := rfl
theorem own_len {t : GType} (h : t.fKind = 2) : (own t).length = cnt3 t.fN + 1 := by
  unfold own; rw [if_pos h, List.length_take, A4_len]; have := cnt3_le t.fN; omega
theorem own_le (t : GType) : (own t).length ≤ 4 := by
  unfold own; split
  · rw [List.length_take, A4_len]; omega
  · simp
theorem kind_own_eq (t : GType) : kind_own t = some (t.fOwn.l.take (cnt3 t.fN + 1)) := by
  unfold kind_own
  have := cnt3_le t.fN
  rw [cnt3_ite, w64 (by omega) (by omega), show ((cnt3 t.fN : Nat) : Int) + 1 = ((cnt3 t.fN + 1 : Nat) : Int) by omega]
  unfold cutL
  rw [if_pos ⟨by omega, by omega, by rw [A4_len]; omega⟩]
  simp
theorem kind_Owners_eq (t : GType) : kind_Owners t = some (own t) := by
  unfold kind_Owners own
  by_cases h : t.fKind = 2
  · rw [if_neg (by simp [h]), if_pos h, kind_own_eq, obs]
    unfold slices_Clone_api_Owner
    rw [room_ok (by rw [List.length_take, A4_len]; simp; omega)]
    rfl
  · rw [if_pos (by simpa using h), if_neg h]

def ari (p : List GClass) (name : List UInt8) : Int := match fi p name with | some i => (match p[i]? with | some c => (c.fParams.length : Int) | none => 0) | none => -1
theorem table_Arity_eq {p : List GClass} (hp : p.length < 9223372036854775806) (name : List UInt8) : table_Arity p name = some (ari p name) := by
  unfold table_Arity ari
  rw [table_Find_eq hp, obs]
  cases hf : fi p name with
  | none => rw [fnd_none hf, if_pos (by simp)]
  | some i =>
    rw [fnd_some hf, if_neg (by simp), idx_lt (fi_lt hf), obs]
    simp only [List.getElem?_eq_getElem (fi_lt hf)]

/-! ### What never fails. -/
def Tot {α : Type} (o : Option α) : Prop := ∃ r, o = some r
theorem tot_some {α : Type} (x : α) : Tot (some x) := ⟨x, rfl⟩
theorem tot_bind {α β : Type} {a : Option α} {f : α → Option β} (h : Tot a) (h2 : ∀ x, a = some x → Tot (f x)) : Tot (Option.bind a f) := by
  obtain ⟨x, rfl⟩ := h
  exact h2 x rfl
theorem tot_ite {α : Type} {b : Bool} {x y : Option α} (h1 : b = true → Tot x) (h2 : b = false → Tot y) : Tot (if b = true then x else y) := by
  cases b with
  | true => exact h1 rfl
  | false => exact h2 rfl
theorem tot_elim {R S α : Type} {r : Ctl R S} {f : R → Option α} {g : S → Option α} (h1 : ∀ v, Tot (f v)) (h2 : ∀ s, Tot (g s)) : Tot (Ctl.elim r f g) := by
  cases r with
  | stop v => exact h1 v
  | next s => exact h2 s
theorem tot_loop1 {ρ : Type} (F : Nat → Int → Option ρ) (len : Nat) (h1 : ∀ (n k : Nat), k < len → Tot (F n ((k + 1 : Nat) : Int)) → Tot (F (n + 1) (k : Int))) (h2 : ∀ (n k : Nat), ¬ k < len → Tot (F (n + 1) (k : Int))) :
    ∀ (n k : Nat), n + k = len + 1 → k ≤ len → Tot (F n (k : Int))
  | 0, k, h, hk => by omega
  | n + 1, k, h, hk => by
    by_cases hlt : k < len
    · exact h1 n k hlt (tot_loop1 F len h1 h2 n (k + 1) (by omega) (by omega))
    · exact h2 n k hlt
theorem tot_loop2 {σ ρ : Type} (F : Nat → σ → Int → Option ρ) (len : Nat) (h1 : ∀ (n k : Nat) (s : σ), k < len → (∀ s', Tot (F n s' ((k + 1 : Nat) : Int))) → Tot (F (n + 1) s (k : Int))) (h2 : ∀ (n k : Nat) (s : σ), ¬ k < len → Tot (F (n + 1) s (k : Int))) :
    ∀ (n k : Nat) (s : σ), n + k = len + 1 → k ≤ len → Tot (F n s (k : Int))
  | 0, k, s, h, hk => by omega
  | n + 1, k, s, h, hk => by
    by_cases hlt : k < len
    · exact h1 n k s hlt (fun s' => tot_loop2 F len h1 h2 n (k + 1) s' (by omega) (by omega))
    · exact h2 n k s hlt
theorem fuel_len (m : Nat) : (((m : Int) : Int) - (0)).toNat + 1 = m + 1 := by omega

theorem mE_mem {l : List GExpr} {e : GExpr} : e ∈ l → mGExpr e ≤ mLGExpr l := by
  induction l with
  | nil => intro h; simp at h
  | cons x l ih =>
    intro h
    simp only [mLGExpr]
    rcases List.mem_cons.1 h with rfl | h
    · omega
    · have := ih h; omega
theorem mS_mem {l : List GStmt} {e : GStmt} : e ∈ l → mGStmt e ≤ mLGStmt l := by
  induction l with
  | nil => intro h; simp at h
  | cons x l ih =>
    intro h
    simp only [mLGStmt]
    rcases List.mem_cons.1 h with rfl | h
    · omega
    · have := ih h; omega
theorem mE_eq (e : GExpr) : mGExpr e = 1 + mLGExpr e.fKids := by cases e; simp only [mGExpr]
theorem mS_eq (e : GStmt) : mGStmt e = 1 + mGExpr e.fE + mLGExpr e.fArgs + mLGStmt e.fBody + mLGStmt e.fElse := by cases e; simp only [mGStmt]
theorem goodE {e : GExpr} (h : goodGExpr e) : e.fKids.length ≤ maxLen ∧ ∀ y ∈ e.fKids, goodGExpr y := by cases h; exact ⟨by assumption, by assumption⟩
theorem goodS {e : GStmt} (h : goodGStmt e) : goodGExpr e.fE ∧ listok (fun y => goodGExpr y) e.fArgs ∧ (e.fBody.length ≤ maxLen ∧ ∀ y ∈ e.fBody, goodGStmt y) ∧ (e.fElse.length ≤ maxLen ∧ ∀ y ∈ e.fElse, goodGStmt y) := by
  cases h
  exact ⟨by assumption, by assumption, ⟨by assumption, by assumption⟩, ⟨by assumption, by assumption⟩⟩
theorem tot_kids : ∀ (n : Nat) (e : GExpr) (d : Int), goodGExpr e → mGExpr e < n → Tot (ref10_kids n e d)
  | 0, e, d, _, h => by omega
  | n + 1, e, d, hg, hm => by
    obtain ⟨hl, hk⟩ := goodE hg
    simp only [maxLen] at hl
    simp only [ref10_kids, fuel_len]
    refine tot_bind (tot_ite (fun _ => tot_some _) (fun _ => tot_some _)) fun x _ => tot_ite (fun _ => tot_some _) fun _ => ?_
    refine tot_bind ?_ fun lr _ => tot_elim (fun v => tot_some _) (fun _ => tot_some _)
    refine tot_loop1 (ref10_kids_L1 e d (ref10_kids n)) e.fKids.length (fun m k hlt ih => ?_) (fun m k hlt => ?_) _ 0 (by omega) (by omega)
    · simp only [ref10_kids_L1]
      rw [if_pos (by simpa using hlt), idx_lt hlt, w64_succ hlt (by omega)]
      simp only [obs]
      have hmem := List.getElem_mem hlt
      have h1 := mE_mem hmem
      rw [mE_eq] at hm
      refine tot_bind (tot_kids n _ _ (hk _ hmem) (by omega)) fun y _ => tot_ite (fun _ => tot_some _) fun _ => ih
    · simp only [ref10_kids_L1]
      rw [if_neg (by simpa using hlt)]
      exact tot_some _
theorem tot_much : ∀ (n : Nat) (e : GStmt) (d : Int), goodGStmt e → mGStmt e < n → Tot (ref10_much n e d)
  | 0, e, d, _, h => by omega
  | n + 1, e, d, hg, hm => by
    obtain ⟨hE, ⟨hal, ha⟩, ⟨hbl, hb⟩, ⟨hll, hl⟩⟩ := goodS hg
    simp only [maxLen] at hal hbl hll
    rw [mS_eq] at hm
    simp only [ref10_much, fuel_len]
    refine tot_bind ?_ fun x _ => tot_ite (fun _ => tot_some _) fun _ => ?_
    · exact tot_ite (fun _ => tot_some _) fun _ => tot_ite (fun _ => tot_some _) fun _ => tot_ite (fun _ => tot_some _) fun _ => tot_ite (fun _ => tot_some _) fun _ => tot_bind (tot_kids _ _ _ hE (by omega)) fun _ _ => tot_some _
    refine tot_bind ?_ fun lr _ => tot_elim (fun v => tot_some _) fun _ => tot_bind ?_ fun lr _ => tot_elim (fun v => tot_some _) fun _ => tot_bind ?_ fun lr _ => tot_elim (fun v => tot_some _) fun _ => tot_some _
    · refine tot_loop1 (ref10_much_L1 e) e.fArgs.length (fun m k hlt ih => ?_) (fun m k hlt => ?_) _ 0 (by omega) (by omega)
      · simp only [ref10_much_L1]
        rw [if_pos (by simpa using hlt), idx_lt hlt, w64_succ hlt (by omega)]
        simp only [obs]
        exact tot_bind (tot_kids _ _ _ (ha _ (List.getElem_mem hlt)) (by omega)) fun y _ => tot_ite (fun _ => tot_some _) fun _ => ih
      · simp only [ref10_much_L1]
        rw [if_neg (by simpa using hlt)]
        exact tot_some _
    · refine tot_loop1 (ref10_much_L2 e d (ref10_much n)) e.fBody.length (fun m k hlt ih => ?_) (fun m k hlt => ?_) _ 0 (by omega) (by omega)
      · simp only [ref10_much_L2]
        rw [if_pos (by simpa using hlt), idx_lt hlt, w64_succ hlt (by omega)]
        simp only [obs]
        have h1 := mS_mem (List.getElem_mem hlt)
        exact tot_bind (tot_much n _ _ (hb _ (List.getElem_mem hlt)) (by omega)) fun y _ => tot_ite (fun _ => tot_some _) fun _ => ih
      · simp only [ref10_much_L2]
        rw [if_neg (by simpa using hlt)]
        exact tot_some _
    · refine tot_loop1 (ref10_much_L3 e d (ref10_much n)) e.fElse.length (fun m k hlt ih => ?_) (fun m k hlt => ?_) _ 0 (by omega) (by omega)
      · simp only [ref10_much_L3]
        rw [if_pos (by simpa using hlt), idx_lt hlt, w64_succ hlt (by omega)]
        simp only [obs]
        have h1 := mS_mem (List.getElem_mem hlt)
        exact tot_bind (tot_much n _ _ (hl _ (List.getElem_mem hlt)) (by omega)) fun y _ => tot_ite (fun _ => tot_some _) fun _ => ih
      · simp only [ref10_much_L3]
        rw [if_neg (by simpa using hlt)]
        exact tot_some _
theorem tot_size : ∀ (n : Nat) (e : GStmt), goodGStmt e → mGStmt e < n → Tot (ref08_Size n e)
  | 0, e, _, h => by omega
  | n + 1, e, hg, hm => by
    obtain ⟨hE, ⟨hal, ha⟩, ⟨hbl, hb⟩, ⟨hll, hl⟩⟩ := goodS hg
    simp only [maxLen] at hbl hll
    rw [mS_eq] at hm
    simp only [ref08_Size, fuel_len]
    refine tot_bind ?_ fun x _ => tot_bind ?_ fun _ _ => tot_some _
    · refine tot_loop2 (ref08_Size_L1 e (ref08_Size n)) e.fBody.length (fun m k s hlt ih => ?_) (fun m k s hlt => ?_) _ 0 _ (by omega) (by omega)
      · simp only [ref08_Size_L1]
        rw [if_pos (by simpa using hlt), idx_lt hlt, w64_succ hlt (by omega)]
        simp only [obs]
        have h1 := mS_mem (List.getElem_mem hlt)
        exact tot_bind (tot_size n _ (hb _ (List.getElem_mem hlt)) (by omega)) fun y _ => ih _
      · simp only [ref08_Size_L1]
        rw [if_neg (by simpa using hlt)]
        exact tot_some _
    · refine tot_loop2 (ref08_Size_L2 e (ref08_Size n)) e.fElse.length (fun m k s hlt ih => ?_) (fun m k s hlt => ?_) _ 0 _ (by omega) (by omega)
      · simp only [ref08_Size_L2]
        rw [if_pos (by simpa using hlt), idx_lt hlt, w64_succ hlt (by omega)]
        simp only [obs]
        have h1 := mS_mem (List.getElem_mem hlt)
        exact tot_bind (tot_size n _ (hl _ (List.getElem_mem hlt)) (by omega)) fun y _ => ih _
      · simp only [ref08_Size_L2]
        rw [if_neg (by simpa using hlt)]
        exact tot_some _
theorem tot_uniques {m : GMethod} (h : goodGMethod m) : Tot (ref10_uniques m) := by
  have hp : m.fParams.length ≤ maxLen := h.2.2.2.1.1
  have hl : m.fLocals.length ≤ maxLen := h.2.2.2.2.1.1
  simp only [maxLen] at hp hl
  simp only [ref10_uniques, fuel_len]
  refine tot_bind ?_ fun x _ => tot_bind ?_ fun _ _ => tot_some _
  · refine tot_loop2 (ref10_uniques_L1 m) m.fParams.length (fun n k s hlt ih => ?_) (fun n k s hlt => ?_) _ 0 _ (by omega) (by omega)
    · simp only [ref10_uniques_L1]
      rw [if_pos (by simpa using hlt), idx_lt hlt, w64_succ hlt (by omega)]
      simp only [obs]
      exact tot_bind (tot_ite (fun _ => tot_some _) fun _ => tot_some _) fun y _ => ih _
    · simp only [ref10_uniques_L1]
      rw [if_neg (by simpa using hlt)]
      exact tot_some _
  · refine tot_loop2 (ref10_uniques_L2 m) m.fLocals.length (fun n k s hlt ih => ?_) (fun n k s hlt => ?_) _ 0 _ (by omega) (by omega)
    · simp only [ref10_uniques_L2]
      rw [if_pos (by simpa using hlt), idx_lt hlt, w64_succ hlt (by omega)]
      simp only [obs]
      exact tot_bind (tot_ite (fun _ => tot_some _) fun _ => tot_some _) fun y _ => ih _
    · simp only [ref10_uniques_L2]
      rw [if_neg (by simpa using hlt)]
      exact tot_some _
/-- It is left with true alone. -/
def TotT {S : Type} (o : Option (Ctl Bool S)) : Prop := o = some (.stop true) ∨ ∃ v, o = some (.next v)
theorem totT_bind {α S : Type} {a : Option α} {f : α → Option (Ctl Bool S)} (h : Tot a) (h2 : ∀ x, a = some x → TotT (f x)) : TotT (Option.bind a f) := by
  obtain ⟨x, rfl⟩ := h
  exact h2 x rfl
theorem totT_ite {S : Type} {b : Bool} {y : Option (Ctl Bool S)} (h2 : b = false → TotT y) : TotT (if b = true then some (.stop true) else y) := by
  cases b with
  | true => exact .inl rfl
  | false => exact h2 rfl
theorem tot_heavy3 {m : GMethod} (hg : listok (fun y => goodGStmt y) m.fBody) : ∀ (n k : Nat) (x : Int), n + k = m.fBody.length + 1 → k ≤ m.fBody.length → TotT (ref10_Heavy_L3 m n x (k : Int))
  | 0, k, x, h, hk => by omega
  | n + 1, k, x, h, hk => by
    obtain ⟨hl, hb⟩ := hg
    simp only [maxLen] at hl
    simp only [ref10_Heavy_L3]
    by_cases hlt : k < m.fBody.length
    · have hmem := hb _ (List.getElem_mem hlt)
      rw [if_pos (by simpa using hlt), idx_lt hlt, w64_succ hlt (by omega)]
      refine totT_bind (tot_ite (fun _ => tot_some _) fun _ => tot_bind (tot_some _) fun y hy => ?_) fun b _ => totT_ite fun _ => ?_
      · cases hy
        exact tot_bind (tot_much _ _ _ hmem (by omega)) fun _ _ => tot_some _
      · refine totT_bind (tot_some _) fun y hy => ?_
        cases hy
        exact totT_bind (tot_size _ _ hmem (by omega)) fun z _ => tot_heavy3 ⟨by simp only [maxLen]; omega, hb⟩ n (k + 1) _ (by omega) (by omega)
    · rw [if_neg (by simpa using hlt)]
      exact .inr ⟨_, rfl⟩
theorem tot_heavy2 {c : GClass} (hg : listok (fun y => goodGMethod y) c.fMethods) : ∀ (n k : Nat) (x : Int), n + k = c.fMethods.length + 1 → k ≤ c.fMethods.length → TotT (ref10_Heavy_L2 c n x (k : Int))
  | 0, k, x, h, hk => by omega
  | n + 1, k, x, h, hk => by
    obtain ⟨hl, hb⟩ := hg
    simp only [maxLen] at hl
    simp only [ref10_Heavy_L2, fuel_len]
    by_cases hlt : k < c.fMethods.length
    · have hmem := hb _ (List.getElem_mem hlt)
      rw [if_pos (by simpa using hlt), idx_lt hlt, w64_succ hlt (by omega)]
      refine totT_bind (tot_some _) fun m hm => ?_
      cases hm
      refine totT_bind (tot_ite (fun _ => tot_some _) fun _ => tot_ite (fun _ => tot_some _) fun _ => tot_ite (fun _ => tot_some _) fun _ => tot_bind (tot_uniques hmem) fun _ _ => tot_some _) fun b _ => totT_ite fun _ => ?_
      rcases tot_heavy3 (m := c.fMethods[k]) hmem.2.2.2.2.2.1 (c.fMethods[k].fBody.length + 1) 0 x (by omega) (by omega) with h3 | ⟨v, h3⟩
      · rw [show (0 : Int) = ((0 : Nat) : Int) from rfl, h3]; exact .inl rfl
      · rw [show (0 : Int) = ((0 : Nat) : Int) from rfl, h3]
        exact tot_heavy2 ⟨by simp only [maxLen]; omega, hb⟩ n (k + 1) v (by omega) (by omega)
    · rw [if_neg (by simpa using hlt)]
      exact .inr ⟨_, rfl⟩
theorem tot_heavy1 {p : List GClass} (hg : listok (fun y => goodGClass y) p) : ∀ (n k : Nat) (x : Int), n + k = p.length + 1 → k ≤ p.length →
    ref10_Heavy_L1 p n x (k : Int) = some (.stop true) ∨ ((∃ v, ref10_Heavy_L1 p n x (k : Int) = some (.next v)) ∧ ∀ c ∈ p.drop k, p.length ≤ 30 ∧ c.fFields.length ≤ 40)
  | 0, k, x, h, hk => by omega
  | n + 1, k, x, h, hk => by
    obtain ⟨hl, hb⟩ := hg
    simp only [maxLen] at hl
    simp only [ref10_Heavy_L1, fuel_len]
    by_cases hlt : k < p.length
    · have hmem := hb _ (List.getElem_mem hlt)
      rw [if_pos (by simpa using hlt), idx_lt hlt, w64_succ hlt (by omega)]
      simp only [obs]
      by_cases h1 : (decide ((p.length : Int) > 30)) = true
      · rw [if_pos h1]; exact .inl rfl
      rw [if_neg h1]
      by_cases h2 : (decide ((p[k].fParams.length : Int) > 20)) = true
      · rw [if_pos h2]; exact .inl rfl
      rw [if_neg h2]
      by_cases h3 : (decide ((p[k].fAbove.length : Int) > 20)) = true
      · rw [if_pos h3]; exact .inl rfl
      rw [if_neg h3]
      by_cases h4 : (decide ((p[k].fFields.length : Int) > 40)) = true
      · rw [if_pos h4]; exact .inl rfl
      rw [if_neg h4]
      simp only [obs]
      by_cases h5 : (decide ((p[k].fMethods.length : Int) > 40)) = true
      · rw [if_pos h5]; exact .inl rfl
      rw [if_neg h5]
      rcases tot_heavy2 (c := p[k]) hmem.2.2.2.2.2.1 (p[k].fMethods.length + 1) 0 x (by omega) (by omega) with h6 | ⟨v, h6⟩
      · rw [show (0 : Int) = ((0 : Nat) : Int) from rfl, h6]; exact .inl rfl
      · rw [show (0 : Int) = ((0 : Nat) : Int) from rfl, h6]
        simp only [obs, Ctl.elim]
        rcases tot_heavy1 (p := p) ⟨by simp only [maxLen]; omega, hb⟩ n (k + 1) v (by omega) (by omega) with h7 | ⟨h7, h8⟩
        · exact .inl h7
        · refine .inr ⟨h7, fun c hc => ?_⟩
          rw [List.drop_eq_getElem_cons hlt] at hc
          rcases List.mem_cons.1 hc with rfl | hc
          · simp at h1 h4; omega
          · exact h8 c hc
    · rw [if_neg (by simpa using hlt), List.drop_eq_nil_of_le (by omega)]
      exact .inr ⟨⟨_, rfl⟩, fun c hc => by simp at hc⟩
theorem heavy_eq {p : List GClass} (hg : listok (fun y => goodGClass y) p) : ∃ b, ref10_Heavy p = some b ∧ (b = false → p.length ≤ 30 ∧ ∀ c ∈ p, c.fFields.length ≤ 40) := by
  simp only [ref10_Heavy, fuel_len]
  rcases tot_heavy1 hg (p.length + 1) 0 0 (by omega) (by omega) with h | ⟨⟨v, h⟩, h2⟩
  · rw [show (0 : Int) = ((0 : Nat) : Int) from rfl] at h ⊢
    rw [h]; exact ⟨true, rfl, fun hb => by cases hb⟩
  · rw [show (0 : Int) = ((0 : Nat) : Int) from rfl] at h ⊢
    rw [h]
    refine ⟨_, rfl, fun _ => ?_⟩
    simp only [List.drop_zero] at h2
    refine ⟨?_, fun c hc => (h2 c hc).2⟩
    cases p with
    | nil => simp
    | cons c p => exact (h2 c (by simp)).1

theorem great35_L {h : List GCell} (hl : h.length ≤ 9223372036854775807) : ∀ (n k : Nat), n + k = h.length + 1 → k ≤ h.length →
    ref35_Great_L1 h n (k : Int) = some (.stop true) ∨ (ref35_Great_L1 h n (k : Int) = some (.next ()) ∧ (k < h.length → h.length ≤ 200))
  | 0, k, hn, hk => by omega
  | n + 1, k, hn, hk => by
    simp only [ref35_Great_L1]
    by_cases hlt : k < h.length
    · rw [if_pos (by simpa using hlt), idx_lt hlt, w64_succ hlt (by omega)]
      by_cases h1 : (decide ((h.length : Int) > 200)) = true
      · rw [if_pos h1]; exact .inl rfl
      rw [if_neg h1]
      simp only [obs]
      by_cases h2 : (decide ((h[k].fFields.length : Int) > 60)) = true
      · rw [if_pos h2]; exact .inl rfl
      rw [if_neg h2]
      rcases great35_L hl n (k + 1) (by omega) (by omega) with h3 | ⟨h3, _⟩
      · exact .inl h3
      · exact .inr ⟨h3, fun _ => by simp at h1; omega⟩
    · rw [if_neg (by simpa using hlt)]
      exact .inr ⟨rfl, fun h => absurd h hlt⟩
theorem great35_eq {h : List GCell} (hl : h.length ≤ 9223372036854775807) : ∃ b, ref35_Great h = some b ∧ (b = false → h.length ≤ 200) := by
  simp only [ref35_Great, fuel_len]
  rw [show (0 : Int) = ((0 : Nat) : Int) from rfl]
  rcases great35_L hl (h.length + 1) 0 (by omega) (by omega) with h1 | ⟨h1, h2⟩
  · rw [h1]; exact ⟨true, rfl, fun hb => by cases hb⟩
  · rw [h1]
    refine ⟨_, rfl, fun _ => ?_⟩
    rcases Nat.eq_zero_or_pos h.length with h0 | h0
    · omega
    · exact h2 h0

/-! ### This. -/
def thisL (m : Nat) : List GOwner := ⟨2, 0⟩ :: (List.range m).map fun (k : Nat) => ⟨3, (k : Int) + 1⟩
theorem this_eq {c : GClass} (h : c.fParams.length ≤ 3) : ∃ t, ref18_This c = some t ∧ t.fKind = 2 ∧ t.fClass = c.fName ∧ t.fN = (c.fParams.length : Int) ∧ own t = thisL c.fParams.length := by
  obtain ⟨n, ps, s, ab, fs, ms, a⟩ := c
  match ps, h with
  | [], _ => exact ⟨_, rfl, rfl, rfl, rfl, rfl⟩
  | [_], _ => exact ⟨_, rfl, rfl, rfl, rfl, rfl⟩
  | [_, _], _ => exact ⟨_, rfl, rfl, rfl, rfl, rfl⟩
  | [_, _, _], _ => exact ⟨_, rfl, rfl, rfl, rfl, rfl⟩

/-! ### Where a variable stands. -/
theorem w64_big {n : Int} (h1 : 9223372036854775808 ≤ n) (h2 : n < 18446744073709551616) : w_i64 n < 0 := by
  show IntKind.i64.wrap n < 0
  unfold IntKind.wrap
  simp only [IntKind.bits, IntKind.signed]
  first | omega | (simp; omega) | skip
def fidx {α : Type} (b : α → Bool) (l : List α) : Int := match l.findIdx? b with | some i => (i : Int) | none => -1
theorem fidx_some {α : Type} {b : α → Bool} {l : List α} (h : 0 ≤ fidx b l) : ∃ i : Nat, fidx b l = (i : Int) ∧ ∃ hi : i < l.length, b l[i] = true := by
  unfold fidx at h ⊢
  cases hf : l.findIdx? b with
  | none => rw [hf] at h; simp at h
  | some i =>
    rw [List.findIdx?_eq_some_iff_getElem] at hf
    obtain ⟨hi, hb, _⟩ := hf
    exact ⟨i, rfl, hi, hb⟩
def isN (name : List UInt8) (v : GVar) : Bool := v.fName == name
def plS (m : GMethod) (name : List UInt8) : Int := if 0 ≤ fidx (isN name) m.fParams then fidx (isN name) m.fParams else if fidx (isN name) m.fLocals < 0 then -1 else w_i64 ((m.fParams.length : Int) + fidx (isN name) m.fLocals)
theorem indexVar_eq {l : List GVar} (hl : l.length ≤ 9223372036854775807) (name : List UInt8) : slices_IndexFunc_api_Var l (fun (z : GVar) => scope_Place_1 z name) = some (fidx (isN name) l) := by
  unfold slices_IndexFunc_api_Var
  rw [findL (slices_IndexFunc_api_Var_L1 l (fun (z : GVar) => scope_Place_1 z name)) (b := isN name) hl (fun n x => by rw [slices_IndexFunc_api_Var_L1]; simp only [scope_Place_1, obs, isN]; rfl), obs, find_any]
  rfl
theorem scope_Place_eq {m : GMethod} (h1 : m.fParams.length ≤ 9223372036854775807) (h2 : m.fLocals.length ≤ 9223372036854775807) (name : List UInt8) : scope_Place m name = some (plS m name) := by
  unfold scope_Place plS
  rw [indexVar_eq h1, obs]
  by_cases h : 0 ≤ fidx (isN name) m.fParams
  · rw [if_pos (by simpa using h), if_pos h]
  · rw [if_neg (by simpa using h), if_neg h, indexVar_eq h2, obs]
    by_cases h' : fidx (isN name) m.fLocals < 0
    · rw [if_pos (by simpa using h'), if_pos h']
    · rw [if_neg (by simpa using h'), if_neg h']
theorem plS_name {m : GMethod} (h1 : m.fParams.length ≤ 9223372036854775807) (h2 : m.fLocals.length ≤ 9223372036854775807) {name : List UInt8} (h : 0 ≤ plS m name) : ((m.fParams ++ m.fLocals)[(plS m name).toNat]?).map GVar.fName = some name := by
  unfold plS at h ⊢
  by_cases ha : 0 ≤ fidx (isN name) m.fParams
  · rw [if_pos ha]
    obtain ⟨i, e, hi, hb⟩ := fidx_some ha
    rw [e, Int.toNat_natCast, List.getElem?_append_left hi, List.getElem?_eq_getElem hi]
    simpa [isN] using hb
  · rw [if_neg ha] at h ⊢
    by_cases hc : fidx (isN name) m.fLocals < 0
    · rw [if_pos hc] at h; omega
    · rw [if_neg hc] at h ⊢
      obtain ⟨i, e, hi, hb⟩ := fidx_some (show 0 ≤ fidx (isN name) m.fLocals by omega)
      rw [e] at h ⊢
      by_cases hw : (m.fParams.length : Int) + (i : Int) ≤ 9223372036854775807
      · rw [w64 (by omega) hw, show ((m.fParams.length : Int) + (i : Int)).toNat = m.fParams.length + i by omega, List.getElem?_append_right (by omega), show m.fParams.length + i - m.fParams.length = i by omega, List.getElem?_eq_getElem hi]
        simpa [isN] using hb
      · have := w64_big (n := (m.fParams.length : Int) + (i : Int)) (by omega) (by omega)
        omega
theorem plS_inj {m : GMethod} (h1 : m.fParams.length ≤ 9223372036854775807) (h2 : m.fLocals.length ≤ 9223372036854775807) {a b : List UInt8} (h : 0 ≤ plS m a) (e : plS m a = plS m b) : a = b := by
  have ha := plS_name h1 h2 h
  have hb := plS_name h1 h2 (name := b) (by omega)
  rw [e, hb] at ha
  exact (Option.some.inj ha).symm
/-! ### A frame's method, and its variables. -/
theorem method_same {p : List GClass} {f g : GFrame} (h1 : g.fClass = f.fClass) (h2 : g.fMethod = f.fMethod) : frame_Method p g = frame_Method p f := by
  unfold frame_Method frame_Method_1
  rw [h1, h2]
theorem method_tot {p : List GClass} (hp : p.length ≤ 1000000) (hg : ∀ c ∈ p, goodGClass c) (f : GFrame) : ∃ c m b, frame_Method p f = some (c, m, b) ∧ m.fParams.length ≤ 9223372036854775807 ∧ m.fLocals.length ≤ 9223372036854775807 := by
  unfold frame_Method
  rw [table_Find_eq (by omega), obs]
  cases hf : fi p f.fClass with
  | none => rw [fnd_none hf, if_pos (by simp)]; exact ⟨_, _, _, rfl, by simp, by simp⟩
  | some i =>
    obtain ⟨c, hc, _⟩ := fi_spec hf
    have hi : idx p (i : Int) = some c := by rw [idx_nat]; exact hc
    have hgc := hg c (List.mem_of_getElem? hc)
    have hml := hgc.2.2.2.2.2.1
    have hll := hml.1
    simp only [maxLen] at hll
    rw [fnd_some hf, if_neg (by simp), hi, obs]
    have hix : slices_IndexFunc_api_Method c.fMethods (fun (z13 : GMethod) => frame_Method_1 z13 f) = some (fidx (fun z => z.fName == f.fMethod) c.fMethods) := by
      unfold slices_IndexFunc_api_Method
      rw [findL (slices_IndexFunc_api_Method_L1 c.fMethods (fun (z13 : GMethod) => frame_Method_1 z13 f)) (b := fun z => z.fName == f.fMethod) (by omega) (fun n x => by rw [slices_IndexFunc_api_Method_L1]; simp only [frame_Method_1, obs]), obs, find_any]
      rfl
    rw [hix, obs]
    by_cases h0 : fidx (fun z : GMethod => z.fName == f.fMethod) c.fMethods < 0
    · rw [if_pos (by simpa using h0)]; exact ⟨_, _, _, rfl, by simp, by simp⟩
    · rw [if_neg (by simpa using h0)]
      obtain ⟨k, e, hk, _⟩ := fidx_some (show 0 ≤ fidx (fun z : GMethod => z.fName == f.fMethod) c.fMethods by omega)
      rw [e]
      simp only [obs, idx_lt hk]
      have hm := hml.2 _ (List.getElem_mem hk)
      have l1 := hm.2.2.2.1.1
      have l2 := hm.2.2.2.2.1.1
      simp only [maxLen] at l1 l2
      exact ⟨_, _, _, rfl, by omega, by omega⟩
def plc (m : GMethod) (b : Bool) (n : Nat) (name : List UInt8) : Int := if b = true ∧ plS m name < (n : Int) then plS m name else -1
theorem plc_lt (m : GMethod) (b : Bool) (n : Nat) (name : List UInt8) : plc m b n name < 0 ∨ (0 ≤ plc m b n name ∧ plc m b n name < (n : Int) ∧ plc m b n name = plS m name) := by
  unfold plc
  split
  · rename_i h
    by_cases h0 : plS m name < 0
    · exact .inl h0
    · exact .inr ⟨by omega, h.2, rfl⟩
  · exact .inl (by omega)
theorem frame_place_eq {p : List GClass} {f : GFrame} {c : GClass} {m : GMethod} {b : Bool} (hM : frame_Method p f = some (c, m, b)) (h1 : m.fParams.length ≤ 9223372036854775807) (h2 : m.fLocals.length ≤ 9223372036854775807) (name : List UInt8) : frame_place p f name = some (plc m b f.fVars.length name) := by
  unfold frame_place plc
  rw [hM, obs, scope_Place_eq h1 h2, obs]
  cases b with
  | false => rw [if_neg (by simp), obs, if_neg (by simp), if_neg (by simp)]
  | true =>
    rw [if_pos rfl, obs]
    by_cases h : plS m name < (f.fVars.length : Int)
    · rw [if_pos (by simpa using h), if_pos ⟨rfl, h⟩]
    · rw [if_neg (by simpa using h), if_neg (fun x => h x.2)]
def thisT : List UInt8 := [116, 104, 105, 115]
def getS (m : GMethod) (b : Bool) (f : GFrame) (name : List UInt8) : GVal × Bool := if name = thisT ∧ b = true then (⟨true, f.fThis⟩, true) else match idx f.fVars (plc m b f.fVars.length name) with | some v => (v, true) | none => (⟨false, 0⟩, false)
theorem frame_Get_eq {p : List GClass} {f : GFrame} {c : GClass} {m : GMethod} {b : Bool} (hM : frame_Method p f = some (c, m, b)) (h1 : m.fParams.length ≤ 9223372036854775807) (h2 : m.fLocals.length ≤ 9223372036854775807) (name : List UInt8) : frame_Get p f name = some (getS m b f name) := by
  have key : ∀ _ : Unit, (Option.bind (frame_place p f name) fun (y9 : Int) =>
      if (decide (y9 < 0)) = true then some (({ fRef := false, fN := 0 } : GVal), false) else Option.bind (idx f.fVars y9) fun (y12 : GVal) => some (y12, true)) = some (match idx f.fVars (plc m b f.fVars.length name) with | some v => (v, true) | none => ((⟨false, 0⟩ : GVal), false)) := by
    intro _
    rw [frame_place_eq hM h1 h2, obs]
    rcases plc_lt m b f.fVars.length name with h | ⟨h, h', _⟩
    · rw [if_pos (by simpa using h), idx_neg h]
    · rw [if_neg (by simpa using h), idx_in h h', obs]
  unfold frame_Get getS
  by_cases ht : name = thisT
  · rw [if_pos (by simp [ht, thisT]), hM]
    cases b with
    | true => rw [if_pos ⟨ht, rfl⟩]; rfl
    | false => rw [if_neg (by simp)]; exact key ()
  · rw [if_neg (by simpa [thisT] using ht), if_neg (fun h => ht h.1)]; exact key ()
theorem frame_Set_eq {p : List GClass} {f : GFrame} {c : GClass} {m : GMethod} {b : Bool} (hM : frame_Method p f = some (c, m, b)) (h1 : m.fParams.length ≤ 9223372036854775807) (h2 : m.fLocals.length ≤ 9223372036854775807) (hv : f.fVars.length ≤ 1000) (name : List UInt8) (v : GVal) :
    (∃ r, frame_Set p f name v = some (r, false)) ∨ (name ≠ thisT ∧ 0 ≤ plc m b f.fVars.length name ∧ frame_Set p f name v = some ({ f with fVars := f.fVars.set (plc m b f.fVars.length name).toNat v }, true)) := by
  unfold frame_Set
  rw [frame_place_eq hM h1 h2, obs]
  rcases plc_lt m b f.fVars.length name with h | ⟨h, h', _⟩
  · rw [if_pos (by simpa using h), obs, if_pos rfl]; exact .inl ⟨_, rfl⟩
  · rw [if_neg (by simpa using h), obs]
    by_cases ht : name = thisT
    · rw [if_pos (by simp [ht, thisT])]; exact .inl ⟨_, rfl⟩
    · rw [if_neg (by simpa [thisT] using ht)]
      unfold slices_Clone_api_Val
      rw [room_ok (by simp; omega), obs, obs, idx_in h h', obs]
      exact .inr ⟨ht, h, rfl⟩
/-- What was set is got; another variable is as it was. -/
theorem get_set {m : GMethod} {b : Bool} {f : GFrame} {a x : List UInt8} {v : GVal} (h1 : m.fParams.length ≤ 9223372036854775807) (h2 : m.fLocals.length ≤ 9223372036854775807) (ha : a ≠ thisT) (h0 : 0 ≤ plc m b f.fVars.length a) :
    getS m b ({ f with fVars := f.fVars.set (plc m b f.fVars.length a).toNat v }) a = (v, true) ∧
    (getS m b f x).2 = (getS m b ({ f with fVars := f.fVars.set (plc m b f.fVars.length a).toNat v }) x).2 ∧
    (a ≠ x → getS m b f x = getS m b ({ f with fVars := f.fVars.set (plc m b f.fVars.length a).toNat v }) x) := by
  rcases plc_lt m b f.fVars.length a with h | ⟨_, h', hp⟩
  · omega
  have hat : ∀ (l : List GVal) (i : Int), 0 ≤ i → idx l i = l[i.toNat]? := fun l i hi => by
    unfold idx; rw [if_pos hi]
  refine ⟨?_, ?_⟩
  · unfold getS
    rw [if_neg (fun h => ha h.1)]
    simp only [List.length_set]
    rw [hat _ _ h0, List.getElem?_set_self (by omega)]
  · by_cases hx : x = thisT ∧ b = true
    · unfold getS
      rw [if_pos hx, if_pos hx]
      exact ⟨rfl, fun _ => rfl⟩
    · have e1 : ∀ g : GFrame, getS m b g x = match idx g.fVars (plc m b g.fVars.length x) with | some v => (v, true) | none => (⟨false, 0⟩, false) := fun g => by unfold getS; rw [if_neg hx]
      rw [e1, e1]
      simp only [List.length_set]
      rcases plc_lt m b f.fVars.length x with g | ⟨g, g', gp⟩
      · rw [idx_neg g, idx_neg g]; exact ⟨rfl, fun _ => rfl⟩
      · rw [hat _ _ g, hat _ _ g]
        by_cases he : plc m b f.fVars.length a = plc m b f.fVars.length x
        · rw [← he, List.getElem?_set_self (by omega), List.getElem?_eq_getElem (by omega)]
          exact ⟨rfl, fun hne => absurd (plS_inj h1 h2 (by omega) (by rw [← hp, he, gp])) hne⟩
        · rw [List.getElem?_set_ne (by omega)]; exact ⟨rfl, fun _ => rfl⟩
/-! ### An object's own owners. -/
theorem places_self {p : List GClass} (hp : p.length ≤ 1000000) {name : List UInt8} {i : Nat} {c : GClass} (hf : fi p name = some i) (hc : p[i]? = some c) {l : List Int} (hl : l.length = c.fParams.length + 1) (hs : l.length ≤ 1000) : raise_Places p name l name = some (l, true) := by
  have ha : ari p name = (c.fParams.length : Int) := by unfold ari; rw [hf]; simp only [hc]
  have hh := ch_head hf
  obtain ⟨t, ht⟩ : ∃ t, ch p name = i :: t := by
    cases hch : ch p name with
    | nil => rw [hch] at hh; cases hh
    | cons a t => rw [hch] at hh; simp only [List.head?_cons, Option.some.injEq] at hh; exact ⟨t, by rw [hh]⟩
  unfold raise_Places raise_raise_int_
  rw [table_Find_eq (by omega), obs, fnd_some hf, if_neg (by simp), table_Arity_eq (by omega), obs, ha, w64 (by omega) (by omega), if_neg (by simp; omega), obs, if_neg (by rw [beq_iff_eq]; omega)]
  unfold slices_Clone_int
  rw [room_ok (by simp; omega), obs, obs, above_Chain_eq hp, obs, ht, List.map_cons, raise_raise_int__L1, if_pos (by simp)]
  rw [show idx (Int.ofNat i :: List.map Int.ofNat t) 0 = some (Int.ofNat i) from rfl, obs, if_pos (by simp), obs]
  rfl
theorem own_self {p : List GClass} (hp : p.length ≤ 1000000) {L : List GCell} {at_ : Int} {cl : List UInt8} {i : Nat} {c : GClass} {y : GCell} (hf : fi p cl = some i) (hc : p[i]? = some c) (h3 : c.fParams.length ≤ 3) (h1 : 1 ≤ at_) (h2 : at_ ≤ (L.length : Int)) (hL : L.length ≤ 1000) (hy : idx L (w_i64 (at_ - 1)) = some y) (hcl : y.fClass = cl) : frame_own p L at_ cl = some (y.fOwn.l.take (c.fParams.length + 1), true) := by
  have ha : ari p cl = (c.fParams.length : Int) := by unfold ari; rw [hf]; simp only [hc]
  unfold frame_own
  rw [if_neg (by simpa using h1), obs, if_neg (by simpa using h2), hy, obs, hcl, table_Arity_eq (by omega), obs, ha, if_neg (by simp), obs, if_neg (by simp; omega), w64 (by omega) (by omega)]
  have : cutL y.fOwn.l 0 ((c.fParams.length : Int) + 1) = some (y.fOwn.l.take (c.fParams.length + 1)) := by
    have h4 : y.fOwn.l.length = 4 := rfl
    unfold cutL
    rw [if_pos ⟨by omega, by omega, by omega⟩]
    simp
  rw [this, obs, places_self hp hf hc (by rw [List.length_take, show y.fOwn.l.length = 4 from rfl]; omega) (by rw [List.length_take, show y.fOwn.l.length = 4 from rfl]; omega)]
  rfl
theorem owners_this (f : GFrame) (x : A4 Int) : ∀ n : Nat, n ≤ 3 → ∃ r, frame_Owners_L1 0 (true, f, x.l.take (n + 1)) (thisL n) ((thisL n).length + 1) (⟨0, 0, 0, 0⟩ : A4 Int) 0 = some r ∧ ∀ j, j ≤ n → r.l[j]? = x.l[j]?
  | 0, _ => ⟨_, rfl, fun j hj => by match j, hj with | 0, _ => rfl⟩
  | 1, _ => ⟨_, rfl, fun j hj => by match j, hj with | 0, _ => rfl | 1, _ => rfl⟩
  | 2, _ => ⟨_, rfl, fun j hj => by match j, hj with | 0, _ => rfl | 1, _ => rfl | 2, _ => rfl⟩
  | 3, _ => ⟨_, rfl, fun j hj => by match j, hj with | 0, _ => rfl | 1, _ => rfl | 2, _ => rfl | 3, _ => rfl⟩
theorem teller_this {f : GFrame} {v : List Int} {n k : Nat} (hv : v.length = n + 1) (hk : k < n + 1) : ∃ o, (thisL n)[k]? = some o ∧ (o.fKind = 2 ∨ o.fKind = 3) ∧ frame_teller_1 o true f v = idx v (k : Int) := by
  cases k with
  | zero =>
    refine ⟨⟨2, 0⟩, rfl, .inl rfl, ?_⟩
    unfold frame_teller_1
    rw [if_neg (by simp), if_neg (by simp), if_pos (by simp), show ((0 : Nat) : Int) = 0 from rfl, idx_in (by omega) (by omega)]; rfl
  | succ k =>
    refine ⟨⟨3, (k : Int) + 1⟩, by unfold thisL; rw [List.getElem?_cons_succ, List.getElem?_map, List.getElem?_range (by omega)]; rfl, .inr rfl, ?_⟩
    unfold frame_teller_1
    dsimp only
    rw [if_neg (by simp), if_neg (by simp), if_neg (by simp), if_pos (by simp), if_pos (by simp; omega), obs, if_pos (by simp; omega), show ((k + 1 : Nat) : Int) = (k : Int) + 1 by omega, idx_in (by omega) (by omega)]; rfl
theorem fits_this {f : GFrame} {v : List Int} {n : Nat} (hn : n ≤ 3) (hv : v.length = n + 1) : ∀ (m k : Nat), m + k = n + 2 → k ≤ n + 1 → frame_Fits_L1 (v, true) (true, f, v) (thisL n) m (k : Int) = some (.next ())
  | 0, k, h, hk => by omega
  | m + 1, k, h, hk => by
    have hl : (thisL n).length = n + 1 := by simp [thisL]
    rw [frame_Fits_L1]
    by_cases hlt : k < n + 1
    · obtain ⟨o, ho, hk2, ht⟩ := teller_this (f := f) hv hlt
      have hi : idx (thisL n) (k : Int) = some o := by rw [idx_nat]; exact ho
      have hiv : idx v (k : Int) = some (v[k]'(by omega)) := idx_lt (by omega)
      have ih := fits_this (f := f) hn hv m (k + 1) (by omega) (by omega)
      rw [if_pos (by simp; omega), hi, w64_succ (m := 10) (by omega) (by omega)]
      simp only [obind]
      have hx : (if (o.fKind == 1) = true then some (o.fKind == 1) else if (o.fKind == 2) = true then some (o.fKind == 2) else if (o.fKind == 3) = true then some (o.fKind == 3) else some (o.fKind == 4) : Option Bool) = some true := by
        rcases hk2 with e | e <;> simp [e]
      rw [hx]
      simp only [if_true]
      rw [if_neg (by simp; omega), hiv, obs, ht, hiv, obs]
      simpa [Ctl.go] using ih
    · rw [if_neg (by simp; omega)]
theorem set_L {w : GWorld_law38} {t : GType} {r x : A4 Int} {y : GCell} {n : Nat} (hn : n ≤ 3) (hy : idx w.fL (w_i64 (w.fF.fThis - 1)) = some y) (hyx : y.fOwn = x) (ht : t.fN = (n : Int)) (hr : ∀ j, j ≤ n → r.l[j]? = x.l[j]?) : ∀ (m k : Nat), n + 1 - k < m → k ≤ n + 1 → law38_FrameSet_L1 w t r m (k : Int) = some (.next ())
  | 0, k, h, hk => by omega
  | m + 1, k, h, hk => by
    rw [law38_FrameSet_L1]
    by_cases hlt : k ≤ n
    · have hrl : r.l.length = 4 := rfl
      have hxl : x.l.length = 4 := rfl
      have e := hr k hlt
      have e1 : r.l[k]'(by omega) = x.l[k]'(by omega) := by
        rw [List.getElem?_eq_getElem (by omega), List.getElem?_eq_getElem (by omega)] at e; exact Option.some.inj e
      rw [if_pos (by simp [ht]; omega), idx_lt (by omega), obs, hy, obs, hyx, idx_lt (by omega), obs, e1, if_neg (by simp), w64_succ (m := 10) (by omega) (by omega)]
      exact set_L hn hy hyx ht hr m (k + 1) (by omega) (by omega)
    · rw [if_neg (by simp [ht]; omega)]
theorem awake38_true : law38_awake = some true := by decide +kernel
theorem bGVal_refl (v : GVal) : bGVal v v = true := by unfold bGVal; simp
theorem law38_FrameSet_true {a0 : List GClass} {a1 : GWorld_law38} {a2 : A2 GPut_law38} (h0 : listok (fun y => goodGClass y) a0) (h1 : goodGWorld_law38 a1) (_h2 : goodGPut_law38 a2.a0 ∧ goodGPut_law38 a2.a1) : law38_FrameSet a0 a1 a2 = some true := by
  have haw := awake38_true
  have hLl := h1.1.1
  simp only [maxLen] at hLl
  unfold law38_FrameSet law38_great
  obtain ⟨b1, hb1, hg1⟩ := heavy_eq h0
  obtain ⟨b2, hb2, hg2⟩ := great35_eq (h := a1.fL) (by omega)
  rw [hb1, obs]
  cases b1 with
  | true => rw [if_pos rfl, obs, if_pos rfl, haw]; rfl
  | false =>
  rw [if_neg (by simp), hb2, obs]
  cases b2 with
  | true => rw [if_pos rfl, obs, if_pos rfl, haw]; rfl
  | false =>
  rw [if_neg (by simp), obs]
  by_cases hV : (a1.fF.fVars.length : Int) > 100
  · rw [if_pos (by simpa using hV), haw]; rfl
  rw [if_neg (by simpa using hV)]
  have hp := (hg1 rfl).1
  have hL := hg2 rfl
  obtain ⟨c, m, b, hM, m1, m2⟩ := method_tot (p := a0) (by omega) h0.2 a1.fF
  -- what is left when the first part is through
  have rest : (Option.bind (ref13_Find a0 a1.fF.fClass) fun (y36 : Int) =>
    Option.bind (if (decide (y36 < 0)) = true then
      some true
    else
      if (decide (a1.fF.fThis < 1)) = true then
        some true
      else
        if (decide (a1.fF.fThis > (a1.fL.length : Int))) = true then
          some true
        else
          Option.bind (idx a1.fL (w_i64 (a1.fF.fThis - 1))) fun (y41 : GCell) =>
          if (!(y41.fClass == a1.fF.fClass)) = true then
            some true
          else
            Option.bind (idx a0 y36) fun (y44 : GClass) =>
            some (decide ((y44.fParams.length : Int) > 3)) : Option (Bool)) fun x46 =>
    if x46 = true then
      Option.bind law38_awake fun (y50 : Bool) =>
      some y50
    else
      Option.bind (idx a0 y36) fun (y56 : GClass) =>
      Option.bind (ref18_This y56) fun (y58 : GType) =>
      Option.bind (frame_Owners a0 a1.fL a1.fF y58 0) fun (y62 : (A4 Int)) =>
      Option.bind (law38_FrameSet_L1 a1 y58 y62 6 0) fun lr101 =>
      Ctl.elim lr101 (fun v => some v) fun _ =>
      Option.bind (frame_Fits a0 a1.fL a1.fF y58 a1.fF.fThis) fun (y103 : Bool) =>
      if y103 = true then
        Option.bind law38_awake fun (y106 : Bool) =>
        some y106
      else
        some false) = some true := by
    rw [ref13_Find_eq (by omega), obs]
    cases hf : fi a0 a1.fF.fClass with
    | none => rw [fnd_none hf, if_pos (by simp), obs, if_pos rfl, haw]; rfl
    | some i =>
      obtain ⟨cc, hc, hcn⟩ := fi_spec hf
      have hi : idx a0 (i : Int) = some cc := by rw [idx_nat]; exact hc
      rw [fnd_some hf, if_neg (by simp), hi]
      by_cases t1 : a1.fF.fThis < 1
      · rw [if_pos (by simpa using t1), obs, if_pos rfl, haw]; rfl
      rw [if_neg (by simpa using t1)]
      by_cases t2 : a1.fF.fThis > (a1.fL.length : Int)
      · rw [if_pos (by simpa using t2), obs, if_pos rfl, haw]; rfl
      rw [if_neg (by simpa using t2)]
      obtain ⟨y, hy⟩ : ∃ y, idx a1.fL (w_i64 (a1.fF.fThis - 1)) = some y := by
        rw [w64 (by omega) (by omega), idx_in (by omega) (by omega)]; exact ⟨_, rfl⟩
      rw [hy, obs]
      by_cases t3 : y.fClass = a1.fF.fClass
      case neg => rw [if_pos (by simpa using t3), obs, if_pos rfl, haw]; rfl
      rw [if_neg (by simpa using t3), obs, obs]
      by_cases t4 : (cc.fParams.length : Int) > 3
      · rw [if_pos (by simpa using t4), haw]; rfl
      rw [if_neg (by simpa using t4), obs]
      have t4 : cc.fParams.length ≤ 3 := by omega
      obtain ⟨ty, hty, k1, k2, k3, k4⟩ := this_eq t4
      have how := own_self (p := a0) (by omega) hf hc t4 (by omega) (by omega) (by omega) hy t3
      have htl : frame_teller a0 a1.fL a1.fF = some (true, a1.fF, y.fOwn.l.take (cc.fParams.length + 1)) := by
        unfold frame_teller; rw [how, obs]
      obtain ⟨r, hr, hrx⟩ := owners_this a1.fF y.fOwn _ t4
      have howners : frame_Owners a0 a1.fL a1.fF ty 0 = some r := by
        unfold frame_Owners
        rw [htl, obs, kind_Owners_eq, obs, k4, fuel_len, hr, obs]
      rw [hty, obs, howners, obs, show (0 : Int) = ((0 : Nat) : Int) from rfl, set_L t4 hy rfl k3 hrx 6 0 (by omega) (by omega), obs]
      show Option.bind (frame_Fits a0 a1.fL a1.fF ty a1.fF.fThis) _ = _
      have hfits : frame_Fits a0 a1.fL a1.fF ty a1.fF.fThis = some true := by
        unfold frame_Fits
        rw [k2, hcn, how, obs, if_neg (by simp), htl, obs, kind_Owners_eq, obs, k4, fuel_len, show (0 : Int) = ((0 : Nat) : Int) from rfl, fits_this t4 (by rw [List.length_take, show y.fOwn.l.length = 4 from rfl]; omega) _ 0 (by simp [thisL]) (by omega), obs]
        rfl
      rw [hfits, obs, if_pos rfl, haw]; rfl
  rcases frame_Set_eq hM m1 m2 (by omega) a2.a0.fName a2.a0.fV with ⟨g, hS⟩ | ⟨s1, s2, hS⟩
  · rw [hS, obs, if_neg (by simp)]
    exact rest
  · rw [hS, obs, if_pos rfl]
    obtain ⟨q1, q2, q3⟩ := get_set (m := m) (b := b) (f := a1.fF) (a := a2.a0.fName) (x := a2.a1.fName) (v := a2.a0.fV) m1 m2 s1 s2
    have hMg : frame_Method a0 ({ a1.fF with fVars := a1.fF.fVars.set (plc m b a1.fF.fVars.length a2.a0.fName).toNat a2.a0.fV } : GFrame) = some (c, m, b) := by rw [← hM]; exact method_same rfl rfl
    rw [frame_Get_eq hMg m1 m2, frame_Get_eq hM m1 m2, frame_Get_eq hMg m1 m2, q1]
    simp only [obind]
    rw [if_neg (by simp), bGVal_refl, if_neg (by simp), q2, if_neg (by simp)]
    by_cases hne : a2.a0.fName = a2.a1.fName
    · rw [if_neg (by simp [hne])]
      simp only [List.length_set, bne_self_eq_false, obind]
      exact rest
    · rw [if_pos (by simpa using hne), q3 hne, bGVal_refl, if_neg (by simp)]
      simp only [List.length_set, bne_self_eq_false, obind]
      exact rest

end Go.Proofs.Ytelohaajmagpbaa
