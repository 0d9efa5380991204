/- A part of the proof that the law AdaptShown gives true for every input. -/
import Derived.Test.YtkfgkkbfipgklaaAdaptShownA2
import Derived.Test.YtkfgkkbfipgklaaAdaptShownA3
import Derived.Test.YtkfgkkbfipgklaaAdaptShownT
import Derived.Test.YtkfgkkbfipgklaaAdaptShownD
/- The plain law. -/
namespace Go.Proofs.Ytkfgkkbfipgklaa
open Go.RowKit Go.Abs
/-! ### The first class of a name. -/
def fiN : List GClass → Nat → List UInt8 → Option Nat
  | [], _, _ => none
  | c :: t, k, name => if c.fName == name then some k else fiN t (k + 1) name
def fi (p : List GClass) (name : List UInt8) : Option Nat := fiN p 0 name
def fnd (p : List GClass) (name : List UInt8) : Int := match fi p name with | some i => (i : Int) | none => -1
theorem fiN_spec : ∀ (l : List GClass) (k : Nat) (name : List UInt8) (i : Nat), fiN l k name = some i → k ≤ i ∧ ∃ c, l[i - k]? = some c ∧ c.fName = name
  | [], k, name, i, h => by simp [fiN] at h
  | c :: t, k, name, i, h => by
    simp only [fiN] at h
    split at h
    · rename_i hc
      cases h
      exact ⟨Nat.le_refl _, c, by simp, by simpa using hc⟩
    · obtain ⟨h1, c', h2, h3⟩ := fiN_spec t (k + 1) name i h
      refine ⟨by omega, c', ?_, h3⟩
      rw [show i - k = (i - (k + 1)) + 1 by omega, List.getElem?_cons_succ]
      exact h2
theorem fiN_some : ∀ (l : List GClass) (k : Nat) (c : GClass), c ∈ l → ∃ i, fiN l k c.fName = some i
  | [], k, c, h => by simp at h
  | c' :: t, k, c, h => by
    simp only [fiN]
    split
    · exact ⟨k, rfl⟩
    · rename_i hc
      rcases List.mem_cons.1 h with rfl | h
      · simp at hc
      · exact fiN_some t (k + 1) c h
theorem fi_spec {p : List GClass} {name : List UInt8} {i : Nat} (h : fi p name = some i) : ∃ c, p[i]? = some c ∧ c.fName = name := by
  obtain ⟨_, c, h1, h2⟩ := fiN_spec p 0 name i h
  exact ⟨c, by simpa using h1, h2⟩
theorem fi_lt {p : List GClass} {name : List UInt8} {i : Nat} (h : fi p name = some i) : i < p.length := by
  obtain ⟨c, h1, _⟩ := fi_spec h
  exact (List.getElem?_eq_some_iff.1 h1).1
theorem fi_some {p : List GClass} {c : GClass} (h : c ∈ p) : ∃ i, fi p c.fName = some i := fiN_some p 0 c h
theorem fnd_some {p : List GClass} {name : List UInt8} {i : Nat} (h : fi p name = some i) : fnd p name = (i : Int) := by unfold fnd; rw [h]
theorem fnd_none {p : List GClass} {name : List UInt8} (h : fi p name = none) : fnd p name = -1 := by unfold fnd; rw [h]
/-- What a loop over a list that stops at the first hit comes to. -/
def hit (o : Option Nat) : Ctl Int Unit := match o with | some i => .stop (i : Int) | none => .next ()

theorem indexFunc_L {p : List GClass} (name : List UInt8) (hp : p.length < 9223372036854775806) : ∀ (n k : Nat), n + k = p.length + 1 → k ≤ p.length →
    slices_IndexFunc_api_Class_L1 p (fun (z1 : GClass) => table_Find_1 z1 name) n (k : Int) = some (hit (fiN (p.drop k) k name))
  | 0, k, h, hk => by omega
  | n + 1, k, h, hk => by
    simp only [slices_IndexFunc_api_Class_L1]
    by_cases hlt : k < p.length
    · rw [if_pos (by simpa using hlt), idx_lt hlt, List.drop_eq_getElem_cons hlt]
      simp only [obs, table_Find_1, fiN]
      by_cases hc : (p[k].fName == name) = true
      · rw [if_pos hc, if_pos hc]; rfl
      · rw [if_neg hc, if_neg hc, w64_succ hlt (by omega)]
        exact indexFunc_L name hp n (k + 1) (by omega) (by omega)
    · rw [if_neg (by simpa using hlt), List.drop_eq_nil_of_le (by omega)]
      rfl
theorem table_Find_eq {p : List GClass} (hp : p.length < 9223372036854775806) (name : List UInt8) : table_Find p name = some (fnd p name) := by
  unfold table_Find slices_IndexFunc_api_Class
  have h := indexFunc_L name hp (p.length + 1) 0 (by omega) (by omega)
  rw [show (((p.length : Int) : Int) - (0)).toNat + 1 = p.length + 1 by omega, show (0 : Int) = ((0 : Nat) : Int) from rfl, h]
  simp only [List.drop_zero, obs]
  unfold fnd fi hit
  cases fiN p 0 name <;> rfl

theorem ref13_Find_L {p : List GClass} (name : List UInt8) (hp : p.length ≤ 9223372036854775807) : ∀ (n k : Nat), n + k = p.length + 1 → k ≤ p.length →
    ref13_Find_L1 p name n (k : Int) = some (hit (fiN (p.drop k) k name))
  | 0, k, h, hk => by omega
  | n + 1, k, h, hk => by
    simp only [ref13_Find_L1]
    by_cases hlt : k < p.length
    · rw [if_pos (by simpa using hlt), idx_lt hlt, List.drop_eq_getElem_cons hlt]
      simp only [obs, fiN]
      by_cases hc : (p[k].fName == name) = true
      · rw [if_pos hc, if_pos hc]; rfl
      · rw [if_neg hc, if_neg hc, w64_succ hlt (by omega)]
        exact ref13_Find_L name hp n (k + 1) (by omega) (by omega)
    · rw [if_neg (by simpa using hlt), List.drop_eq_nil_of_le (by omega)]
      rfl
theorem ref13_Find_eq {p : List GClass} (hp : p.length ≤ 9223372036854775807) (name : List UInt8) : ref13_Find p name = some (fnd p name) := by
  unfold ref13_Find
  have h := ref13_Find_L name hp (p.length + 1) 0 (by omega) (by omega)
  rw [show (((p.length : Int) : Int) - (0)).toNat + 1 = p.length + 1 by omega, show (0 : Int) = ((0 : Nat) : Int) from rfl, h]
  simp only [List.drop_zero, obs]
  unfold fnd fi hit
  cases fiN p 0 name <;> rfl

/-! ### The walk up. -/
/-- The class that stands at `i`, its name's super. -/
def sup (p : List GClass) (i : Nat) : List UInt8 := match p[i]? with | some c => c.fSuper | none => []
def upN (p : List GClass) : Nat → List UInt8 → List Nat
  | 0, _ => []
  | n + 1, name => match fi p name with
    | none => []
    | some i => if sup p i == [] then [i] else i :: upN p n (sup p i)
theorem itR_up_n_eq {p : List GClass} (hp : p.length < 9223372036854775806) : ∀ (n : Nat) (name : List UInt8), itR_up_n p n name = some ((upN p n name).map Int.ofNat)
  | 0, name => rfl
  | n + 1, name => by
    simp only [itR_up_n, upN, table_Find_eq hp, obs]
    cases hf : fi p name with
    | none => rw [fnd_none hf]; simp
    | some i =>
      rw [fnd_some hf, if_neg (by omega)]
      obtain ⟨c, hc, _⟩ := fi_spec hf
      have hidx : idx p (i : Int) = some c := by rw [idx_nat]; exact hc
      rw [hidx]
      have hs : sup p i = c.fSuper := by unfold sup; rw [hc]
      simp only [obs, hs]
      by_cases he : (c.fSuper == []) = true
      · rw [if_pos he, if_pos he]; rfl
      · rw [if_neg he, if_neg he, itR_up_n_eq hp n c.fSuper]; rfl
theorem itR_up_eq {p : List GClass} (hp : p.length < 9223372036854775806) (name : List UInt8) : itR_up p name = some ((upN p (p.length + 1) name).map Int.ofNat) := by
  unfold itR_up; rw [if_pos hp, itR_up_n_eq hp]

/-- The chain: up to the first one that comes twice. -/
def chN (p : List GClass) : Nat → List Nat → List UInt8 → List Nat
  | 0, out, _ => out
  | n + 1, out, name => match fi p name with
    | none => out
    | some i => if i ∈ out then out else if sup p i == [] then out ++ [i] else chN p n (out ++ [i]) (sup p i)
def ch (p : List GClass) (name : List UInt8) : List Nat := chN p (p.length + 1) [] name

theorem nodup_len : ∀ (L : Nat) (l : List Nat), l.Nodup → (∀ x ∈ l, x < L) → l.length ≤ L
  | 0, l, _, h => by
    cases l with
    | nil => exact Nat.le_refl _
    | cons x l => have := h x (by simp); omega
  | L + 1, l, hn, h => by
    have h1 := nodup_len L (l.erase L) (hn.erase L) (fun x hx => by
      have := (hn.mem_erase_iff.1 hx)
      have := h x this.2
      omega)
    by_cases hm : L ∈ l
    · have := List.length_erase_of_mem hm; omega
    · rw [List.erase_of_not_mem hm] at h1; omega

/-- What holds on the way up. -/
structure Way (p : List GClass) (out : List Nat) (name : List UInt8) : Prop where
  nd : out.Nodup
  lt : ∀ x ∈ out, x < p.length
  nx : ∀ x ∈ out, sup p x ≠ [] ∧ (sup p x = name ∨ ∃ j, fi p (sup p x) = some j ∧ j ∈ out)
  own : ∀ x ∈ out, ∃ nm, fi p nm = some x

theorem Way.nil (p : List GClass) (name : List UInt8) : Way p [] name := ⟨List.nodup_nil, by simp, by simp, by simp⟩
theorem Way.snoc {p : List GClass} {out : List Nat} {name : List UInt8} {i : Nat} (h : Way p out name) (hf : fi p name = some i) (hi : i ∉ out) (hs : sup p i ≠ []) : Way p (out ++ [i]) (sup p i) := by
  refine ⟨?_, fun x hx => ?_, fun x hx => ?_, fun x hx => ?_⟩
  · refine List.nodup_append.2 ⟨h.nd, by simp, fun a ha b hb => ?_⟩
    simp at hb; subst hb; rintro rfl; exact hi ha
  · rcases List.mem_append.1 hx with hx | hx
    · exact h.lt x hx
    · simp at hx; subst hx; exact fi_lt hf
  · rcases List.mem_append.1 hx with hx | hx
    · obtain ⟨h1, h2⟩ := h.nx x hx
      refine ⟨h1, .inr ?_⟩
      rcases h2 with h2 | ⟨j, h2, h3⟩
      · exact ⟨i, by rw [h2]; exact hf, by simp⟩
      · exact ⟨j, h2, by simp [h3]⟩
    · simp at hx; subst hx; exact ⟨hs, .inl rfl⟩
  · rcases List.mem_append.1 hx with hx | hx
    · exact h.own x hx
    · simp at hx; subst hx; exact ⟨name, hf⟩

/-- A set of classes that one does not leave upwards. -/
def Shut (p : List GClass) (S : List Nat) : Prop := ∀ x ∈ S, sup p x ≠ [] → ∀ j, fi p (sup p x) = some j → j ∈ S
theorem upN_shut {p : List GClass} {S : List Nat} (h : Shut p S) : ∀ (n : Nat) (name : List UInt8), (∀ j, fi p name = some j → j ∈ S) → ∀ x ∈ upN p n name, x ∈ S
  | 0, name, _, x, hx => by simp [upN] at hx
  | n + 1, name, hs, x, hx => by
    simp only [upN] at hx
    cases hf : fi p name with
    | none => rw [hf] at hx; simp at hx
    | some i =>
      rw [hf] at hx
      have hi := hs i hf
      simp only at hx
      split at hx
      · simp at hx; subst hx; exact hi
      · rename_i he
        rcases List.mem_cons.1 hx with rfl | hx
        · exact hi
        · exact upN_shut h n _ (fun j hj => h i hi (by simpa using he) j hj) x hx
/-- .. where each has one above it: the walk never ends. -/
theorem upN_round {p : List GClass} {S : List Nat} (h : ∀ x ∈ S, sup p x ≠ [] ∧ ∃ j, fi p (sup p x) = some j ∧ j ∈ S) : ∀ (n : Nat) (name : List UInt8) (i : Nat), fi p name = some i → i ∈ S → (upN p n name).length = n
  | 0, name, i, _, _ => rfl
  | n + 1, name, i, hf, hi => by
    obtain ⟨h1, j, h2, h3⟩ := h i hi
    simp only [upN, hf]
    rw [if_neg (by simpa using h1)]
    simp [upN_round h n _ j h2 h3]

/-- Did the chain end because one came twice? -/
def back (p : List GClass) (l : List Nat) : Bool := match l.getLast? with
  | none => false
  | some i => !(sup p i == []) && (match fi p (sup p i) with | some j => decide (j ∈ l) | none => false)

/-- **The walk and the chain.** -/
theorem upN_chN {p : List GClass} : ∀ (n : Nat) (out : List Nat) (name : List UInt8), n + out.length = p.length + 1 → Way p out name → (out = [] ∨ ∃ x, out.getLast? = some x ∧ sup p x = name) →
    ∃ R, out ++ upN p n name = chN p n out name ++ R ∧ (∀ x ∈ R, x ∈ chN p n out name) ∧ (∀ x ∈ out, x ∈ chN p n out name) ∧ (∀ j, fi p name = some j → j ∈ chN p n out name) ∧ Shut p (chN p n out name) ∧ (chN p n out name).Nodup ∧ (∀ x ∈ chN p n out name, x < p.length ∧ ∃ nm, fi p nm = some x) ∧
      (back p (chN p n out name) = decide ((upN p n name).length = n))
  | 0, out, name, hn, hw, hl => by
    exfalso
    have := nodup_len p.length out hw.nd hw.lt
    omega
  | n + 1, out, name, hn, hw, hl => by
    have hlen := nodup_len p.length out hw.nd hw.lt
    cases hf : fi p name with
    | none =>
      simp only [upN, chN, hf]
      refine ⟨[], by simp, by simp, fun x hx => hx, by simp, fun x hx hne j hj => ?_, hw.nd, fun x hx => ⟨hw.lt x hx, hw.own x hx⟩, ?_⟩
      · rcases (hw.nx x hx).2 with h1 | ⟨j', h1, h2⟩
        · rw [h1, hf] at hj; cases hj
        · rw [h1] at hj; cases hj; exact h2
      · have : back p out = false := by
          unfold back
          rcases hl with rfl | ⟨x, h1, h2⟩
          · rfl
          · rw [h1]; simp only [h2, hf, Bool.and_false]
        rw [this]; simp
    | some i =>
      simp only [upN, chN, hf]
      by_cases hi : i ∈ out
      · rw [if_pos hi]
        have hround : ∀ x ∈ out, sup p x ≠ [] ∧ ∃ j, fi p (sup p x) = some j ∧ j ∈ out := by
          intro x hx
          obtain ⟨h1, h2⟩ := hw.nx x hx
          refine ⟨h1, ?_⟩
          rcases h2 with h2 | h2
          · exact ⟨i, by rw [h2]; exact hf, hi⟩
          · exact h2
        have hshut : Shut p out := fun x hx _ j hj => by
          obtain ⟨_, j', h1, h2⟩ := hround x hx
          rw [h1] at hj; cases hj; exact h2
        have hsub := upN_shut hshut (n + 1) name (fun j hj => by rw [hf] at hj; cases hj; exact hi)
        have hfull := upN_round hround (n + 1) name i hf hi
        simp only [upN, hf] at hsub hfull
        refine ⟨_, rfl, hsub, fun x hx => hx, fun j hj => by cases hj; exact hi, hshut, hw.nd, fun x hx => ⟨hw.lt x hx, hw.own x hx⟩, ?_⟩
        rw [hfull]
        have : back p out = true := by
          unfold back
          rcases hl with rfl | ⟨x, h1, h2⟩
          · simp at hi
          · have hx : x ∈ out := List.mem_of_getLast? h1
            rw [h1]
            simp only [h2, hf, hi, decide_true, Bool.and_true]
            have := (hw.nx x hx).1
            rw [h2] at this
            simpa using this
        rw [this]; simp
      · rw [if_neg hi]
        by_cases hs : (sup p i == []) = true
        · rw [if_pos hs, if_pos hs]
          have hs' : sup p i = [] := by simpa using hs
          have hw2 : (out ++ [i]).Nodup := List.nodup_append.2 ⟨hw.nd, by simp, fun a ha b hb => by
            simp at hb; subst hb; rintro rfl; exact hi ha⟩
          have hlt2 : ∀ x ∈ out ++ [i], x < p.length := fun x hx => by
            rcases List.mem_append.1 hx with hx | hx
            · exact hw.lt x hx
            · simp at hx; subst hx; exact fi_lt hf
          have hlen2 := nodup_len p.length _ hw2 hlt2
          refine ⟨[], by simp, by simp, fun x hx => by simp [hx], fun j hj => by cases hj; simp, fun x hx hne j hj => ?_, hw2, fun x hx => ⟨hlt2 x hx, ?_⟩, ?_⟩
          · rcases List.mem_append.1 hx with hx | hx
            · rcases (hw.nx x hx).2 with h1 | ⟨j', h1, h2⟩
              · rw [h1, hf] at hj; cases hj; simp
              · rw [h1] at hj; cases hj; simp [h2]
            · simp at hx; subst hx; exact absurd hs' hne
          · rcases List.mem_append.1 hx with hx | hx
            · exact hw.own x hx
            · simp at hx; subst hx; exact ⟨name, hf⟩
          · have : back p (out ++ [i]) = false := by
              unfold back; simp [hs']
            rw [this]
            simp at hlen2
            simp; omega
        · rw [if_neg hs, if_neg hs]
          have hs' : sup p i ≠ [] := by simpa using hs
          obtain ⟨R, k1, k2, k3, k4, k5, k6, k7, k8⟩ := upN_chN n (out ++ [i]) (sup p i) (by simp; omega) (hw.snoc hf hi hs') (.inr ⟨i, by simp, rfl⟩)
          refine ⟨R, by rw [← k1]; simp, k2, fun x hx => k3 x (by simp [hx]), fun j hj => by cases hj; exact k3 i (by simp), k5, k6, k7, ?_⟩
          rw [k8]; simp
/-- The facts about a name's chain. -/
theorem ch_facts (p : List GClass) (name : List UInt8) : ∃ R, upN p (p.length + 1) name = ch p name ++ R ∧ (∀ x ∈ R, x ∈ ch p name) ∧ (∀ j, fi p name = some j → j ∈ ch p name) ∧ Shut p (ch p name) ∧ (ch p name).Nodup ∧ (∀ x ∈ ch p name, x < p.length ∧ ∃ nm, fi p nm = some x) ∧
    (back p (ch p name) = decide ((upN p (p.length + 1) name).length = p.length + 1)) := by
  obtain ⟨R, k1, k2, k3, k4, k5, k6, k7, k8⟩ := upN_chN (p.length + 1) [] name (by simp) (Way.nil p name) (.inl rfl)
  exact ⟨R, by unfold ch; simpa using k1, k2, k4, k5, k6, k7, k8⟩
theorem mem_up {p : List GClass} {name : List UInt8} {x : Nat} : x ∈ upN p (p.length + 1) name ↔ x ∈ ch p name := by
  obtain ⟨R, k1, k2, _⟩ := ch_facts p name
  rw [k1]
  constructor
  · intro h
    rcases List.mem_append.1 h with h | h
    · exact h
    · exact k2 x h
  · intro h; simp [h]

/-! ### Chains, by the program and by the document. -/
theorem idxI_L {l : List Int} (a : Int) (hp : l.length < 9223372036854775806) : ∀ (n k : Nat), n + k = l.length + 1 → k ≤ l.length →
    ∃ r, slices_Index_int_L1 l a n (k : Int) = some r ∧ ((∃ v : Int, r = .stop v ∧ 0 ≤ v ∧ a ∈ l.drop k) ∨ (r = .next () ∧ a ∉ l.drop k))
  | 0, k, h, hk => by omega
  | n + 1, k, h, hk => by
    simp only [slices_Index_int_L1]
    by_cases hlt : k < l.length
    · rw [if_pos (by simpa using hlt), idx_lt hlt, List.drop_eq_getElem_cons hlt]
      simp only [obs]
      by_cases hc : (a == l[k]) = true
      · rw [if_pos hc]
        have hc' : a = l[k] := by simpa using hc
        exact ⟨_, rfl, .inl ⟨_, rfl, by omega, by rw [hc']; exact List.mem_cons_self⟩⟩
      · rw [if_neg hc, w64_succ hlt (by omega)]
        obtain ⟨r, h1, h2⟩ := idxI_L a hp n (k + 1) (by omega) (by omega)
        refine ⟨r, h1, ?_⟩
        have hne : a ≠ l[k] := by simpa using hc
        rcases h2 with ⟨v, h3, h4, h5⟩ | ⟨h3, h4⟩
        · exact .inl ⟨v, h3, h4, List.mem_cons_of_mem _ h5⟩
        · exact .inr ⟨h3, fun hm => (List.mem_cons.1 hm).elim hne h4⟩
    · rw [if_neg (by simpa using hlt), List.drop_eq_nil_of_le (by omega)]
      exact ⟨_, rfl, .inr ⟨rfl, by simp⟩⟩
theorem contains_eq {l : List Int} (hp : l.length < 9223372036854775806) (a : Int) : slices_Contains_int l a = some (decide (a ∈ l)) := by
  unfold slices_Contains_int slices_Index_int
  obtain ⟨r, h1, h2⟩ := idxI_L a hp (l.length + 1) 0 (by omega) (by omega)
  rw [show (((l.length : Int) : Int) - (0)).toNat + 1 = l.length + 1 by omega, show (0 : Int) = ((0 : Nat) : Int) from rfl, h1]
  rcases h2 with ⟨v, rfl, h3, h4⟩ | ⟨rfl, h4⟩
  · simp only [obs, Ctl.elim]
    simp only [List.drop_zero] at h4
    simp [h4, h3]
  · simp only [obs, Ctl.elim]
    simp only [List.drop_zero] at h4
    simp [h4]
theorem mem_cast {i : Nat} {l : List Nat} : ((i : Int) ∈ l.map Int.ofNat) ↔ i ∈ l := by
  rw [List.mem_map]
  constructor
  · rintro ⟨j, h1, h2⟩
    have : j = i := Int.ofNat.inj h2
    exact this ▸ h1
  · intro h; exact ⟨i, h, rfl⟩

theorem chain_runs {p : List GClass} (hp : p.length ≤ 1000000) : ∀ (n : Nat) (out : List Nat) (name : List UInt8), n + out.length = p.length + 1 →
    ∃ r, runs above_Chain_B1 ((upN p n name).map Int.ofNat) (out.map Int.ofNat) = some r ∧ Ctl.elim r (fun x => x) (fun x => x) = (chN p n out name).map Int.ofNat
  | 0, out, name, _ => ⟨_, rfl, rfl⟩
  | n + 1, out, name, hn => by
    have hout : (out.map Int.ofNat).length < 9223372036854775806 := by simp; omega
    have hroom : room (((out.map Int.ofNat).length : Int) + (([(0 : Int)].length : Nat) : Int)) 8 = some () := room_ok (by simp; omega)
    simp only [upN, chN]
    cases hf : fi p name with
    | none => exact ⟨_, rfl, rfl⟩
    | some i =>
      simp only
      have hstep : ∀ rest, runs above_Chain_B1 (((i : Nat) :: rest).map Int.ofNat) (out.map Int.ofNat) = if i ∈ out then some (.stop (out.map Int.ofNat)) else runs above_Chain_B1 (rest.map Int.ofNat) ((out ++ [i]).map Int.ofNat) := by
        intro rest
        simp only [List.map_cons, runs, above_Chain_B1]
        rw [contains_eq hout]
        simp only [obs]
        by_cases hi : i ∈ out
        · have : Int.ofNat i ∈ out.map Int.ofNat := mem_cast.2 hi
          rw [if_pos hi, if_pos (by simpa using this)]
          rfl
        · have hni : ¬ Int.ofNat i ∈ out.map Int.ofNat := fun h => hi (mem_cast.1 h)
          rw [if_neg hi, if_neg (by simpa using hni)]
          rw [show (([Int.ofNat i].length : Nat) : Int) = (([(0 : Int)].length : Nat) : Int) from rfl, hroom]
          simp [obs, Ctl.elim]
      by_cases hi : i ∈ out
      · rw [if_pos hi]
        split
        · rw [hstep, if_pos hi]; exact ⟨_, rfl, rfl⟩
        · rw [hstep, if_pos hi]; exact ⟨_, rfl, rfl⟩
      · rw [if_neg hi]
        by_cases hs : (sup p i == []) = true
        · rw [if_pos hs, if_pos hs, hstep, if_neg hi]
          exact ⟨_, rfl, rfl⟩
        · rw [if_neg hs, if_neg hs, hstep, if_neg hi]
          exact chain_runs hp n (out ++ [i]) (sup p i) (by simp; omega)
theorem above_Chain_eq {p : List GClass} (hp : p.length ≤ 1000000) (name : List UInt8) : above_Chain p name = some ((ch p name).map Int.ofNat) := by
  unfold above_Chain above_up
  simp only [obs]
  rw [itR_up_eq (by omega)]
  simp only [obs]
  obtain ⟨r, h1, h2⟩ := chain_runs hp (p.length + 1) [] name (by simp)
  rw [show ([] : List Int) = ([] : List Nat).map Int.ofNat from rfl, h1]
  unfold ch
  rw [← h2]
  cases r <;> rfl
theorem ch_len (p : List GClass) (name : List UInt8) : (ch p name).length ≤ p.length := by
  obtain ⟨_, _, _, _, _, k6, k7, _⟩ := ch_facts p name
  exact nodup_len _ _ k6 (fun x hx => (k7 x hx).1)
theorem ch_ne {p : List GClass} {name : List UInt8} {i : Nat} (h : fi p name = some i) : ch p name ≠ [] := by
  obtain ⟨_, _, _, k4, _⟩ := ch_facts p name
  intro e
  have := k4 i h
  rw [e] at this; simp at this

/-! ### Owners, put. -/
theorem bGOwner_eq (a b : GOwner) : bGOwner a b = decide (a = b) := by
  rw [Bool.eq_iff_iff]; cases a; cases b; simp [bGOwner]
theorem bGOwner_refl (a : GOwner) : bGOwner a a = true := by simp [bGOwner]
def putAt (l : List GOwner) (n : Int) : GOwner := match idx l n with | some y => y | none => ⟨8, 0⟩
def putS (a : GOwner) (l : List GOwner) : GOwner := if a.fKind = 3 then putAt l a.fN else if a.fKind = 2 then putAt l 0 else a
theorem owner_Put_eq (a : GOwner) (l : List GOwner) : owner_Put a l = some (putS a l) := by
  have key : ∀ n : Int, (Option.bind (if (decide (n < 0)) = true then some true else some (decide (n ≥ (l.length : Int))) : Option Bool) fun x5 =>
      if x5 = true then some ({ fKind := 8, fN := 0 } : GOwner) else Option.bind (idx l n) fun (y9 : GOwner) => some y9) = some (putAt l n) := by
    intro n
    by_cases h0 : n < 0
    · simp [h0, putAt, idx_neg h0]
    · by_cases h1 : n ≥ (l.length : Int)
      · simp [h0, h1, putAt, idx_ge h1]
      · have := idx_in (l := l) (n := n) (by omega) (by omega)
        simp [h0, h1, putAt, this]
  unfold owner_Put putS
  by_cases h3 : a.fKind = 3
  · simp only [h3, if_true, beq_self_eq_true, Ctl.go]; exact key _
  · by_cases h2 : a.fKind = 2
    · simp [h2, Ctl.go]; simpa using key 0
    · simp [h3, h2, Ctl.go]

/-! ### The owners of a type. -/
/-- How many owners stand behind the class. -/
def cnt3 (n : Int) : Nat := if n ≤ 0 then 0 else if 3 ≤ n then 3 else n.toNat
theorem cnt3_le (n : Int) : cnt3 n ≤ 3 := by unfold cnt3; split; omega; split; omega; omega
theorem cnt3_ite (n : Int) : (if (if 3 < n then 3 else n) > 0 then (if 3 < n then 3 else n) else 0) = ((cnt3 n : Nat) : Int) := by
  unfold cnt3
  by_cases h : n ≤ 0
  · rw [if_neg (show ¬ 3 < n by omega), if_neg (show ¬ n > 0 by omega), if_pos h]; rfl
  · by_cases h3 : 3 ≤ n
    · by_cases h4 : 3 < n
      · simp only [if_pos h4, if_neg h, if_pos h3]; omega
      · simp only [if_neg h4, if_neg h, if_pos h3]; rw [if_pos (by omega)]; omega
    · simp only [if_neg (show ¬ 3 < n by omega), if_neg h, if_neg h3]; rw [if_pos (by omega)]; omega
def own (t : GType) : List GOwner := if t.fKind = 2 then t.fOwn.l.take (cnt3 t.fN + 1) else []
theorem A4_len {α : Type} (x : A4 α) : x.l.length = 4 := rfl
theorem own_len {t : GType} (h : t.fKind = 2) : (own t).length = cnt3 t.fN + 1 := by
  unfold own; rw [if_pos h, List.length_take, A4_len]; have := cnt3_le t.fN; omega
theorem own_le (t : GType) : (own t).length ≤ 4 := by
  unfold own; split
  · rw [List.length_take, A4_len]; omega
  · simp
theorem kind_own_eq (t : GType) : kind_own t = some (t.fOwn.l.take (cnt3 t.fN + 1)) := by
  unfold kind_own
  have := cnt3_le t.fN
  rw [cnt3_ite, w64 (by omega) (by omega), show ((cnt3 t.fN : Nat) : Int) + 1 = ((cnt3 t.fN + 1 : Nat) : Int) by omega]
  unfold cutL
  rw [if_pos ⟨by omega, by omega, by rw [A4_len]; omega⟩]
  simp
theorem kind_Owners_eq (t : GType) : kind_Owners t = some (own t) := by
  unfold kind_Owners own
  by_cases h : t.fKind = 2
  · rw [if_neg (by simp [h]), if_pos h, kind_own_eq, obs]
    unfold slices_Clone_api_Owner
    rw [room_ok (by rw [List.length_take, A4_len]; simp; omega)]
    rfl
  · rw [if_pos (by simpa using h), if_neg h]

theorem ref05_Owners_L {t : GType} (h : t.fKind = 2) : ∀ (n k : Nat), n + k = 6 → k ≤ cnt3 t.fN + 1 → ref05_Owners_L1 t n (t.fOwn.l.take k) (k : Int) = some (own t)
  | 0, k, hn, hk => by have := cnt3_le t.fN; omega
  | n + 1, k, hn, hk => by
    have hc := cnt3_le t.fN
    rw [ref05_Owners_L1]
    unfold ref05_count
    rw [cnt3_ite, obs]
    by_cases hlt : k ≤ cnt3 t.fN
    · rw [if_pos (by simpa using hlt), obs, if_pos (by simpa using h), idx_lt (by rw [A4_len]; omega), obs]
      rw [room_ok (by rw [List.length_take, List.length_singleton]; have := A4_len t.fOwn; omega), obs, w64 (by omega) (by omega), show ((k : Nat) : Int) + 1 = ((k + 1 : Nat) : Int) by omega]
      rw [← List.take_succ_eq_append_getElem (by rw [A4_len]; omega)]
      exact ref05_Owners_L h n (k + 1) (by omega) (by omega)
    · rw [if_neg (by simpa using hlt), obs, if_neg (by simp)]
      have : k = cnt3 t.fN + 1 := by omega
      unfold own
      rw [if_pos h, this]
theorem ref05_Owners_eq (t : GType) : ref05_Owners t = some (own t) := by
  unfold ref05_Owners
  by_cases h : t.fKind = 2
  · have := ref05_Owners_L h 6 0 (by omega) (by omega)
    rw [show ((0 : Nat) : Int) = 0 from rfl, List.take_zero] at this
    rw [this]; rfl
  · rw [ref05_Owners_L1]
    have hk : (t.fKind == 2) = false := by simpa using h
    unfold ref05_count own
    rw [cnt3_ite, obs, if_neg h, if_pos (by simp), obs, hk, if_neg (by simp)]
    rfl

/-! ### Owners, raised along a chain. -/
def ari (p : List GClass) (name : List UInt8) : Int := match fi p name with | some i => (match p[i]? with | some c => (c.fParams.length : Int) | none => 0) | none => -1
theorem table_Arity_eq {p : List GClass} (hp : p.length < 9223372036854775806) (name : List UInt8) : table_Arity p name = some (ari p name) := by
  unfold table_Arity ari
  rw [table_Find_eq hp, obs]
  cases hf : fi p name with
  | none => rw [fnd_none hf, if_pos (by simp)]
  | some i =>
    rw [fnd_some hf, if_neg (by simp), idx_lt (fi_lt hf), obs]
    simp only [List.getElem?_eq_getElem (fi_lt hf)]
def abv (p : List GClass) (i : Nat) : List GOwner := match p[i]? with | some c => c.fAbove | none => []
def nextS (p : List GClass) (i : Nat) (l : List GOwner) : List GOwner := l.take 1 ++ (abv p i).map (putS · l)
def rs (p : List GClass) (e : Nat) : List Nat → List GOwner → List GOwner × Bool
  | [], _ => ([], false)
  | i :: r, l => if i = e then (l, true) else rs p e r (nextS p i l)
def aboveOk (p : List GClass) : Prop := ∀ c ∈ p, c.fAbove.length ≤ 20 ∧ c.fParams.length ≤ 20
theorem abv_le {p : List GClass} (h : aboveOk p) (i : Nat) : (abv p i).length ≤ 20 := by
  unfold abv
  cases hc : p[i]? with
  | none => simp
  | some c => exact (h c (List.mem_of_getElem? hc)).1
theorem nextS_len {p : List GClass} (h : aboveOk p) (i : Nat) {l : List GOwner} (hl : 1 ≤ l.length) : 1 ≤ (nextS p i l).length ∧ (nextS p i l).length ≤ 21 := by
  have := abv_le h i
  unfold nextS
  rw [List.length_append, List.length_map, List.length_take]
  omega
theorem rs_none (p : List GClass) (e : Nat) : ∀ (c : List Nat) (l : List GOwner), e ∉ c → rs p e c l = ([], false)
  | [], l, _ => rfl
  | i :: r, l, h => by
    simp only [List.mem_cons, not_or] at h
    simp only [rs]
    rw [if_neg (fun e' => h.1 e'.symm)]
    exact rs_none p e r _ h.2
theorem rs_some {p : List GClass} (h : aboveOk p) (e : Nat) : ∀ (c : List Nat) (l : List GOwner), 1 ≤ l.length → l.length ≤ 21 → e ∈ c → (rs p e c l).2 = true ∧ 1 ≤ (rs p e c l).1.length ∧ (rs p e c l).1.length ≤ 21
  | [], l, _, _, he => by simp at he
  | i :: r, l, h1, h2, he => by
    simp only [rs]
    by_cases hi : i = e
    · rw [if_pos hi]; exact ⟨rfl, h1, h2⟩
    · rw [if_neg hi]
      have := nextS_len h i h1
      exact rs_some h e r _ this.1 this.2 ((List.mem_cons.1 he).resolve_left (fun x => hi x.symm))
theorem raise_L2_eq (s : List GOwner) (cls : GClass) (hc : cls.fAbove.length ≤ 20) (n : Nat) (acc : List GOwner) (ha : acc.length ≤ 1000) (hn : n = cls.fAbove.length) (h1 : 1 ≤ cls.fAbove.length) :
    raise_raise_api_Owner__L2 (fun z1 z2 => owner_Put z1 z2) s cls n acc 1 = some (acc ++ (cls.fAbove.drop 1).map (putS · s)) := by
  have := foldL_at (l := cls.fAbove) (L := raise_raise_api_Owner__L2 (fun z1 z2 => owner_Put z1 z2) s cls) (by omega) (f := fun acc y => Option.bind (owner_Put y s) fun z => Option.bind (room ((acc.length : Int) + ([z].length : Int)) 16) fun _ => some (acc ++ [z])) (fin := some) (fun n acc x => by
    rw [raise_raise_api_Owner__L2]
    by_cases h : decide (x < (cls.fAbove.length : Int)) = true
    · rw [if_pos h, if_pos h]
      cases idx cls.fAbove x with
      | none => rfl
      | some y =>
        rw [obs, obs]
        cases owner_Put y s with
        | none => rfl
        | some z => rw [obs, obs]; cases room ((acc.length : Int) + ([z].length : Int)) 16 <;> rfl
    · rw [if_neg h, if_neg h]) n 1 acc (by omega) h1
  rw [show ((1 : Nat) : Int) = 1 from rfl] at this
  rw [this, foldO_room _ (putS · s) 2000 (fun s' y hs => by
    rw [owner_Put_eq, obs, List.length_singleton, room1 (by omega) (by omega) (by omega), obs]) _ acc (by rw [List.length_drop]; omega)]
  rfl
def rsC (r : List GOwner × Bool) : Ctl (List GOwner × Bool) Unit := if r.2 = true then .stop r else .next ()
theorem raise_L_eq {p : List GClass} (hp : p.length ≤ 1000000) (hA : aboveOk p) (e : Nat) (c : List Nat) (hc : ∀ x ∈ c, x < p.length) (hl : c.length ≤ 1000000) : ∀ (n k : Nat) (s : List GOwner), n + k = c.length + 1 → k ≤ c.length → 1 ≤ s.length → s.length ≤ 21 →
    raise_raise_api_Owner__L1 p (fun z1 z2 => owner_Put z1 z2) (e : Int) (c.map Int.ofNat) n s (k : Int) = some (rsC (rs p e (c.drop k) s))
  | 0, k, s, h, hk, _, _ => by omega
  | n + 1, k, s, h, hk, h1, h2 => by
    rw [raise_raise_api_Owner__L1, List.length_map]
    by_cases hlt : k < c.length
    · have hx := hc _ (List.getElem_mem hlt)
      rw [if_pos (by simpa using hlt), idx_nat, List.getElem?_map, List.getElem?_eq_getElem hlt, Option.map_some, obs, List.drop_eq_getElem_cons hlt]
      simp only [rs]
      by_cases he : c[k] = e
      · rw [if_pos (by simp [he]), if_pos he]; rfl
      · rw [if_neg (by simp; omega), if_neg he]
        have hcut : cutL s 0 1 = some (s.take 1) := by unfold cutL; rw [if_pos ⟨by omega, by omega, by omega⟩]; rfl
        have hidx : idx p (Int.ofNat c[k]) = some p[c[k]] := idx_lt hx
        have habv : abv p c[k] = p[c[k]].fAbove := by unfold abv; rw [List.getElem?_eq_getElem hx]
        have hle := abv_le hA c[k]
        rw [habv] at hle
        rw [hcut, obs, hidx, obs]
        have hb : (if (decide (0 < (p[c[k]].fAbove.length : Int))) = true then
          Option.bind (idx p[c[k]].fAbove 0) fun (y192 : GOwner) =>
          Option.bind (owner_Put y192 s) fun (y198 : GOwner) =>
          Option.bind (room (((s.take 1).length : Int) + ([y198].length : Int)) 16) fun (u200 : Unit) =>
          raise_raise_api_Owner__L2 (fun z1 z2 => owner_Put z1 z2) s p[c[k]] ((((p[c[k]].fAbove.length : Int) : Int) - ((w_i64 (0 + 1)))).toNat + 1) ((s.take 1) ++ [y198]) (w_i64 (0 + 1))
        else
          some (s.take 1) : Option ((List GOwner))) = some (nextS p c[k] s) := by
          unfold nextS
          rw [habv]
          by_cases h0 : 0 < p[c[k]].fAbove.length
          · rw [if_pos (by simpa using h0), show (0 : Int) = ((0 : Nat) : Int) from rfl, idx_lt h0, obs, owner_Put_eq, obs, List.length_singleton, room1 (by rw [List.length_take]; omega) (by omega) (by omega), obs]
            rw [show w_i64 (((0 : Nat) : Int) + 1) = 1 by rw [w64 (by omega) (by omega)]; rfl]
            rw [raise_L2_eq s p[c[k]] hle _ _ (by rw [List.length_append, List.length_take, List.length_singleton]; omega) (by omega) h0]
            congr 1
            rw [List.append_assoc]
            congr 1
            conv => rhs; rw [show p[c[k]].fAbove = p[c[k]].fAbove.drop 0 by simp, List.drop_eq_getElem_cons h0]
            rfl
          · rw [if_neg (by simpa using h0)]
            have : p[c[k]].fAbove = [] := List.length_eq_zero_iff.1 (by omega)
            rw [this]; simp
        rw [hb, obs, w64_succ hlt (by omega)]
        have hn := nextS_len hA c[k] h1
        exact raise_L_eq hp hA e c hc hl n (k + 1) _ (by omega) (by omega) hn.1 hn.2
    · rw [if_neg (by simpa using hlt), List.drop_eq_nil_of_le (by omega)]
      rfl
def raiseS (p : List GClass) (a : List UInt8) (l : List GOwner) (b : List UInt8) : List GOwner × Bool :=
  match fi p b with
  | none => ([], false)
  | some e => if (l.length : Int) = ari p a + 1 ∧ l ≠ [] then rs p e (ch p a) l else ([], false)
theorem ari_range {p : List GClass} (hA : aboveOk p) (a : List UInt8) : -1 ≤ ari p a ∧ ari p a ≤ 20 := by
  unfold ari
  split
  · rename_i i hi
    split
    · rename_i c hc
      have := (hA c (List.mem_of_getElem? hc)).2
      omega
    · omega
  · omega
theorem raise_Raise_eq {p : List GClass} (hp : p.length ≤ 1000000) (hA : aboveOk p) (a : List UInt8) (l : List GOwner) (b : List UInt8) : raise_Raise p a l b = some (raiseS p a l b) := by
  unfold raise_Raise raise_raise_api_Owner_ raiseS
  have har := ari_range hA a
  rw [table_Find_eq (by omega), obs, table_Arity_eq (by omega)]
  cases hf : fi p b with
  | none => rw [fnd_none hf, if_pos (by simp)]; rfl
  | some e =>
    show _ = some (if (l.length : Int) = ari p a + 1 ∧ l ≠ [] then rs p e (ch p a) l else ([], false))
    rw [fnd_some hf, if_neg (by simp), obs, w64 (by omega) (by omega)]
    by_cases h1 : (l.length : Int) = ari p a + 1
    · rw [if_neg (by simpa using h1), obs]
      by_cases h2 : l = []
      · rw [if_pos (by simp [h2]), if_neg (fun h => h.2 h2)]; rfl
      · have hlp : 1 ≤ l.length := List.length_pos_iff.2 h2
        rw [if_neg (by simpa using h2), if_pos ⟨h1, h2⟩]
        unfold slices_Clone_api_Owner
        rw [room_ok (by simp; omega), obs, obs, above_Chain_eq hp, obs]
        have hcl := ch_len p a
        obtain ⟨_, _, _, _, _, _, k7, _⟩ := ch_facts p a
        rw [List.length_map, show ((((ch p a).length : Int) : Int) - (0)).toNat + 1 = (ch p a).length + 1 by omega, show (0 : Int) = ((0 : Nat) : Int) from rfl, raise_L_eq hp hA e (ch p a) (fun x hx => (k7 x hx).1) (by omega) _ 0 l (by omega) (by omega) hlp (by omega), List.drop_zero, obs]
        unfold rsC
        cases hr : rs p e (ch p a) l with
        | mk r t =>
          cases t with
          | true => rfl
          | false =>
            -- nothing is left
            have : ∀ (c : List Nat) (l r : List GOwner), rs p e c l = (r, false) → r = [] := by
              intro c
              induction c with
              | nil => intro l r h; simp [rs] at h; exact h
              | cons i c ih =>
                intro l r h
                simp only [rs] at h
                split at h
                · cases h
                · exact ih _ _ h
            rw [this _ _ _ hr]; rfl
    · rw [if_pos (by simpa using h1), obs, if_pos rfl, if_neg (fun h => h1 h.1)]; rfl

def uniq (t : GType) : Bool := decide (t.fKind = 2) && decide (t.fOwn.a0.fKind = 6)
theorem kind_Unique_eq (t : GType) : kind_Unique t = some (uniq t) := by
  unfold kind_Unique uniq
  by_cases h : t.fKind = 2
  · rw [if_pos (by simpa using h)]; simp [h]; rfl
  · rw [if_neg (by simpa using h)]; simp [h]

theorem ref05_Unique_eq (t : GType) : ref05_Unique t = some (uniq t) := by
  unfold ref05_Unique uniq
  by_cases h : t.fKind = 2
  · rw [if_pos (by simpa using h)]; simp [h]; rfl
  · rw [if_neg (by simpa using h)]; simp [h]

/-! ### What never fails. -/
def Tot {α : Type} (o : Option α) : Prop := ∃ r, o = some r
theorem tot_some {α : Type} (x : α) : Tot (some x) := ⟨x, rfl⟩
theorem tot_bind {α β : Type} {a : Option α} {f : α → Option β} (h : Tot a) (h2 : ∀ x, a = some x → Tot (f x)) : Tot (Option.bind a f) := by
  obtain ⟨x, rfl⟩ := h
  exact h2 x rfl
theorem tot_ite {α : Type} {b : Bool} {x y : Option α} (h1 : b = true → Tot x) (h2 : b = false → Tot y) : Tot (if b = true then x else y) := by
  cases b with
  | true => exact h1 rfl
  | false => exact h2 rfl
theorem tot_elim {R S α : Type} {r : Ctl R S} {f : R → Option α} {g : S → Option α} (h1 : ∀ v, Tot (f v)) (h2 : ∀ s, Tot (g s)) : Tot (Ctl.elim r f g) := by
  cases r with
  | stop v => exact h1 v
  | next s => exact h2 s
theorem tot_loop1 {ρ : Type} (F : Nat → Int → Option ρ) (len : Nat) (h1 : ∀ (n k : Nat), k < len → Tot (F n ((k + 1 : Nat) : Int)) → Tot (F (n + 1) (k : Int))) (h2 : ∀ (n k : Nat), ¬ k < len → Tot (F (n + 1) (k : Int))) :
    ∀ (n k : Nat), n + k = len + 1 → k ≤ len → Tot (F n (k : Int))
  | 0, k, h, hk => by omega
  | n + 1, k, h, hk => by
    by_cases hlt : k < len
    · exact h1 n k hlt (tot_loop1 F len h1 h2 n (k + 1) (by omega) (by omega))
    · exact h2 n k hlt
theorem tot_loop2 {σ ρ : Type} (F : Nat → σ → Int → Option ρ) (len : Nat) (h1 : ∀ (n k : Nat) (s : σ), k < len → (∀ s', Tot (F n s' ((k + 1 : Nat) : Int))) → Tot (F (n + 1) s (k : Int))) (h2 : ∀ (n k : Nat) (s : σ), ¬ k < len → Tot (F (n + 1) s (k : Int))) :
    ∀ (n k : Nat) (s : σ), n + k = len + 1 → k ≤ len → Tot (F n s (k : Int))
  | 0, k, s, h, hk => by omega
  | n + 1, k, s, h, hk => by
    by_cases hlt : k < len
    · exact h1 n k s hlt (fun s' => tot_loop2 F len h1 h2 n (k + 1) s' (by omega) (by omega))
    · exact h2 n k s hlt
theorem fuel_len (m : Nat) : (((m : Int) : Int) - (0)).toNat + 1 = m + 1 := by omega

/-! ### The document's words, types, expressions, statements: never a failure. -/
theorem tot_Letter (b : Int) : Tot (ref02_Letter b) := by
  unfold ref02_Letter
  repeat (first | exact tot_some _ | refine tot_ite (fun _ => ?_) fun _ => ?_)
theorem tot_Digit (b : Int) : Tot (ref02_Digit b) := by
  unfold ref02_Digit
  repeat (first | exact tot_some _ | refine tot_ite (fun _ => ?_) fun _ => ?_)
theorem tot_Find (s : List UInt8) : Tot (ref02_Find s) := by
  unfold ref02_Find
  refine tot_bind (show Tot ref02_Words from tot_some _) fun W hW => ?_
  have hl : W.length ≤ 9223372036854775807 := by unfold ref02_Words at hW; cases hW; simp
  rw [fuel_len]
  refine tot_bind ?_ fun _ _ => tot_elim (fun _ => tot_some _) fun _ => tot_some _
  refine tot_loop1 (ref02_Find_L1 s W) W.length (fun m k hlt ih => ?_) (fun m k hlt => ?_) _ 0 (by omega) (by omega)
  · rw [ref02_Find_L1, if_pos (by simpa using hlt), idx_lt hlt, w64_succ hlt hl, obs]
    exact tot_ite (fun _ => tot_some _) fun _ => ih
  · rw [ref02_Find_L1, if_neg (by simpa using hlt)]; exact tot_some _
theorem tot_Name {s : List UInt8} (h : s.length ≤ 9223372036854775807) : Tot (ref02_Name s) := by
  unfold ref02_Name
  rw [fuel_len]
  refine tot_bind (tot_ite (fun _ => tot_some _) fun h1 => tot_ite (fun _ => tot_some _) fun _ => ?_) fun _ _ => tot_ite (fun _ => tot_some _) fun _ => tot_bind ?_ fun _ _ => tot_elim (fun _ => tot_some _) fun _ => tot_some _
  · have h0 : 0 < s.length := by simp at h1; omega
    rw [show (0 : Int) = ((0 : Nat) : Int) from rfl, idx_lt h0, obs]
    exact tot_bind (tot_Letter _) fun _ _ => tot_ite (fun _ => tot_some _) fun _ => tot_bind (tot_Find _) fun _ _ => tot_some _
  · refine tot_loop1 (ref02_Name_L1 s) s.length (fun m k hlt ih => ?_) (fun m k hlt => ?_) _ 0 (by omega) (by omega)
    · rw [ref02_Name_L1, if_pos (by simpa using hlt), idx_lt hlt, w64_succ hlt h]
      simp only [obs]
      exact tot_bind (tot_bind (tot_Letter _) fun _ _ => tot_ite (fun _ => tot_bind (tot_Digit _) fun _ _ => tot_some _) fun _ => tot_some _) fun _ _ => tot_ite (fun _ => tot_some _) fun _ => ih
    · rw [ref02_Name_L1, if_neg (by simpa using hlt)]; exact tot_some _
theorem tot_ORight (o : GOwner) (n : Int) : Tot (ref04_Right o n) := by
  unfold ref04_Right
  repeat (first | exact tot_some _ | refine tot_ite (fun _ => ?_) fun _ => ?_)
theorem tot_TRight {t : GType} (n : Int) (h : t.fClass.length ≤ 9223372036854775807) : Tot (ref05_Right t n) := by
  unfold ref05_Right
  rw [show (((4 : Int) : Int) - (0)).toNat + 1 = t.fOwn.l.length + 1 from rfl]
  refine tot_bind (tot_ite (fun _ => tot_some _) fun _ => tot_some _) fun _ _ => tot_ite (fun _ => tot_some _) fun _ => tot_bind ?_ fun _ _ => tot_ite (fun _ => tot_some _) fun _ => tot_bind ?_ fun _ _ => tot_elim (fun _ => tot_some _) fun _ => tot_some _
  · exact tot_ite (fun _ => tot_some _) fun _ => tot_bind (tot_Name h) fun _ _ => tot_ite (fun _ => tot_some _) fun _ => tot_ite (fun _ => tot_some _) fun _ => tot_some _
  · refine tot_loop1 (ref05_Right_L1 t n) t.fOwn.l.length (fun m k hlt ih => ?_) (fun m k hlt => ?_) _ 0 (by omega) (by omega)
    · have h4 : t.fOwn.l.length = 4 := rfl
      rw [ref05_Right_L1, if_pos (by simp; omega), idx_lt hlt, w64_succ hlt (by omega), obs]
      refine tot_bind ?_ fun _ _ => tot_ite (fun _ => tot_some _) fun _ => ih
      repeat (first | exact tot_some _ | exact tot_ORight _ _ | refine tot_ite (fun _ => ?_) fun _ => ?_ | refine tot_bind ?_ fun _ _ => ?_)
    · have h4 : t.fOwn.l.length = 4 := rfl
      rw [ref05_Right_L1, if_neg (by simp; omega)]; exact tot_some _

theorem cf_owner {l : List GOwner} (hp : l.length ≤ 9223372036854775807) {q : GOwner → Option Bool} {b : GOwner → Bool} (hq : ∀ y, q y = some (b y)) : slices_ContainsFunc_api_Owner l q = some (l.any b) := by
  unfold slices_ContainsFunc_api_Owner slices_IndexFunc_api_Owner
  rw [findL (slices_IndexFunc_api_Owner_L1 l q) (b := b) hp (fun n x => by rw [slices_IndexFunc_api_Owner_L1]; simp only [hq, obs]), obs, find_any, obs, idx_any]

theorem great26_eq {p : List GClass} (hp : p.length ≤ 9223372036854775807) : ∃ b, law26_great p = some b ∧ (b = false → p.length ≤ 30 ∧ aboveOk p) := by
  unfold law26_great
  rw [anyL (law26_great_L1 p) (r := true) (b := fun c => decide ((c.fAbove.length : Int) > 20) || decide ((c.fParams.length : Int) > 20)) hp (fun n x => by
    rw [law26_great_L1]
    by_cases h : decide (x < (p.length : Int)) = true
    · rw [if_pos h, if_pos h]
      cases idx p x with
      | none => rfl
      | some y =>
        simp only [obs]
        by_cases h1 : (y.fAbove.length : Int) > 20
        · rw [if_pos (by simpa using h1), obs, if_pos rfl, if_pos (by simp [h1])]
        · rw [if_neg (by simpa using h1), obs]; simp only [decide_eq_false h1, Bool.false_or]
    · rw [if_neg h, if_neg h]), obs]
  by_cases h : (p.any fun c => decide ((c.fAbove.length : Int) > 20) || decide ((c.fParams.length : Int) > 20)) = true
  · rw [if_pos h]; exact ⟨true, rfl, fun h => by cases h⟩
  · rw [if_neg h]
    refine ⟨_, rfl, fun hb => ⟨by simp at hb; omega, fun c hc => ?_⟩⟩
    simp only [List.any_eq_true, not_exists, not_and, Bool.or_eq_true, decide_eq_true_eq, not_or] at h
    have := h c hc
    omega

/-! ### A class is raised to itself. -/
theorem chN_head {p : List GClass} : ∀ (n : Nat) (out : List Nat) (name : List UInt8) (i : Nat), out.head? = some i → (chN p n out name).head? = some i
  | 0, _, _, _, h => h
  | n + 1, out, name, i, h => by
    have ha : ∀ j : Nat, (out ++ [j]).head? = some i := fun j => by cases out with | nil => cases h | cons a t => exact h
    unfold chN
    split
    · exact h
    · split
      · exact h
      · split
        · exact ha _
        · exact chN_head n _ _ i (ha _)
theorem ch_head {p : List GClass} {name : List UInt8} {i : Nat} (h : fi p name = some i) : (ch p name).head? = some i := by
  unfold ch chN
  rw [h]
  show (if i ∈ [] then [] else if (sup p i == []) = true then [] ++ [i] else chN p p.length ([] ++ [i]) (sup p i)).head? = some i
  rw [if_neg (by simp)]
  split
  · rfl
  · exact chN_head _ _ _ _ rfl
theorem raiseS_self {p : List GClass} {name : List UInt8} {i : Nat} {c : GClass} {l : List GOwner} (h : fi p name = some i) (hc : p[i]? = some c) (hl : l.length = c.fParams.length + 1) : raiseS p name l name = (l, true) := by
  have ha : ari p name = (c.fParams.length : Int) := by unfold ari; rw [h]; simp only [hc]
  unfold raiseS
  rw [h]
  show (if (l.length : Int) = ari p name + 1 ∧ l ≠ [] then rs p i (ch p name) l else ([], false)) = _
  rw [if_pos ⟨by rw [ha]; omega, fun e => by rw [e] at hl; simp at hl⟩]
  have hh := ch_head h
  cases hch : ch p name with
  | nil => rw [hch] at hh; cases hh
  | cons a t =>
    rw [hch] at hh
    simp only [List.head?_cons, Option.some.injEq] at hh
    subst hh
    simp only [rs, if_true]

/-! ### Owners set. -/
def gg (g : GOwner → GOwner) (o : GOwner) : GOwner := if (g o).fKind = 8 then ⟨8, 0⟩ else g o
def setN (g : GOwner → GOwner) : List GOwner → Nat → GType → GType
  | [], _, t => t
  | o :: l, k, t => setN g l (k + 1) { t with fOwn := A4.set t.fOwn k (gg g o) }
theorem set_l {x : A4 GOwner} {k : Nat} (h : k < 4) (o : GOwner) : idx x.l (k : Int) = idx x.l (k : Int) ∧ idx (A4.set x k o).l (k : Int) = some o ∧ ∃ y, idx x.l (k : Int) = some y := by
  refine ⟨rfl, ?_, _, idx_lt (by rw [A4_len]; exact h)⟩
  rw [idx_lt (by rw [A4_len]; exact h)]
  match k, h with
  | 0, _ => rfl
  | 1, _ => rfl
  | 2, _ => rfl
  | 3, _ => rfl
theorem set_set {x : A4 GOwner} {k : Nat} (h : k < 4) (o o' : GOwner) : A4.set (A4.set x k o) k o' = A4.set x k o' := by
  match k, h with
  | 0, _ => rfl
  | 1, _ => rfl
  | 2, _ => rfl
  | 3, _ => rfl
theorem see_L {q : Clo0} {g : GOwner → GOwner} (hq : ∀ z, q.q z = some (g z)) {l : List GOwner} (hl : l.length ≤ 4) : ∀ (n k : Nat) (t : GType), n + k = l.length + 1 → k ≤ l.length → adapt_See_L1 q l n t (k : Int) = some (setN g (l.drop k) k t)
  | 0, k, t, h, hk => by omega
  | n + 1, k, t, h, hk => by
    rw [adapt_See_L1]
    by_cases hlt : k < l.length
    · obtain ⟨_, s1, y, s2⟩ := set_l (x := t.fOwn) (k := k) (by omega) (g l[k])
      rw [if_pos (by simpa using hlt), idx_lt hlt, obs, hq, obs, s2, obs, Int.toNat_natCast, s1, obs, List.drop_eq_getElem_cons hlt, w64_succ hlt (by omega)]
      by_cases h8 : (g l[k]).fKind = 8
      · rw [if_pos (by simpa using h8)]
        unfold adapt_dark
        rw [obs, obs]
        rw [obs, see_L hq hl n (k + 1) _ (by omega) (by omega), set_set (by omega)]
        simp only [setN, gg, if_pos h8]
      · rw [if_neg (by simpa using h8), obs, see_L hq hl n (k + 1) _ (by omega) (by omega)]
        simp only [setN, gg, if_neg h8]
    · rw [if_neg (by simpa using hlt), List.drop_eq_nil_of_le (by omega)]; rfl
def seeS (g : GOwner → GOwner) (t : GType) : GType := setN g (own t) 0 t
theorem see_eq {p : List GClass} {v : GView_adapt} {cl : List UInt8} {t : GType} {q : Clo0} {g : GOwner → GOwner} (hm : adapt_made p v cl = some q) (hq : ∀ z, q.q z = some (g z)) : adapt_See p v cl t = some (seeS g t) := by
  unfold adapt_See seeS
  rw [hm, obs, kind_Owners_eq, obs, fuel_len, show (0 : Int) = ((0 : Nat) : Int) from rfl, see_L hq (own_le t) _ 0 t (by omega) (by omega), obs, List.drop_zero]
theorem setN_keeps (g : GOwner → GOwner) : ∀ (l : List GOwner) (k : Nat) (t : GType), (setN g l k t).fKind = t.fKind ∧ (setN g l k t).fClass = t.fClass ∧ (setN g l k t).fN = t.fN
  | [], _, _ => ⟨rfl, rfl, rfl⟩
  | _ :: l, k, _ => setN_keeps g l (k + 1) _
theorem own_cases {t : GType} (h : t.fKind = 2) : own t = [t.fOwn.a0] ∨ own t = [t.fOwn.a0, t.fOwn.a1] ∨ own t = [t.fOwn.a0, t.fOwn.a1, t.fOwn.a2] ∨ own t = [t.fOwn.a0, t.fOwn.a1, t.fOwn.a2, t.fOwn.a3] := by
  have hc := cnt3_le t.fN
  unfold own
  rw [if_pos h]
  generalize cnt3 t.fN = c at hc
  match c, hc with
  | 0, _ => exact .inl rfl
  | 1, _ => exact .inr (.inl rfl)
  | 2, _ => exact .inr (.inr (.inl rfl))
  | 3, _ => exact .inr (.inr (.inr rfl))
theorem own_of {t t' : GType} (hk : t'.fKind = t.fKind) (hn : t'.fN = t.fN) : own t' = if t.fKind = 2 then t'.fOwn.l.take (cnt3 t.fN + 1) else [] := by unfold own; rw [hk, hn]
theorem see_own (g : GOwner → GOwner) (t : GType) : own (seeS g t) = (own t).map (gg g) := by
  obtain ⟨hk, _, hn⟩ := setN_keeps g (own t) 0 t
  show own (setN g (own t) 0 t) = _
  rw [own_of hk hn]
  by_cases h : t.fKind = 2
  · have hc := cnt3_le t.fN
    unfold own
    rw [if_pos h, if_pos h]
    generalize cnt3 t.fN = c at hc
    match c, hc with
    | 0, _ => rfl
    | 1, _ => rfl
    | 2, _ => rfl
    | 3, _ => rfl
  · rw [if_neg h, show own t = [] by unfold own; rw [if_neg h]]; rfl
theorem see_same {g : GOwner → GOwner} {t : GType} (h : ∀ o ∈ own t, gg g o = o) : seeS g t = t := by
  unfold seeS
  by_cases hk : t.fKind = 2
  · rcases own_cases hk with e | e | e | e <;> rw [e] at h ⊢ <;> simp only [List.mem_cons, List.mem_nil_iff, or_false, forall_eq_or_imp, forall_eq] at h <;> simp only [setN, h] <;> rfl
  · rw [show own t = [] by unfold own; rw [if_neg hk]]; rfl
theorem hidden_eq (t : GType) : adapt_Hidden t = some ((own t).any fun o => decide (o.fKind = 8)) := by
  have hl := own_le t
  unfold adapt_Hidden
  rw [kind_Owners_eq, obs, cf_owner (b := fun o => decide (o.fKind = 8)) (by omega) (fun y => by unfold adapt_Hidden_1; rfl), obs]

/-! ### A right type's owners. -/
def RO (m : Int) (o : GOwner) : Prop := (o.fKind = 3 → 1 ≤ o.fN ∧ o.fN ≤ m) ∧ (o.fKind = 2 → o.fN = 0) ∧ o.fKind ≠ 8
theorem right04 {o : GOwner} {m : Int} (h : ref04_Right o m = some true) : RO m o := by
  unfold ref04_Right at h
  unfold RO
  by_cases h3 : o.fKind = 3
  · rw [if_pos (by simpa using h3)] at h
    by_cases h1 : o.fN ≥ 1
    · rw [if_pos (by simpa using h1)] at h; simp at h; omega
    · rw [if_neg (by simpa using h1)] at h; simp at h
  · rw [if_neg (by simpa using h3)] at h
    by_cases h7 : o.fKind = 7
    · omega
    · rw [if_neg (by simpa using h7)] at h
      by_cases h0 : o.fN = 0
      · refine ⟨fun e => absurd e h3, fun _ => h0, fun e => ?_⟩
        rw [if_pos (by simpa using h0)] at h
        simp [e] at h
      · rw [if_neg (by simpa using h0)] at h; simp at h
theorem bind_next {α β : Type} {o : Option α} {f : α → Option β} {r : β} (h : Option.bind o f = some r) : ∃ x, o = some x ∧ f x = some r := by
  cases o with
  | none => cases h
  | some x => exact ⟨x, rfl, h⟩
theorem right05_L {t : GType} {m : Int} : ∀ (n k : Nat), n + k = 5 → ref05_Right_L1 t m n (k : Int) = some (.next ()) → ∀ j o, k ≤ j → (j : Int) ≤ t.fN → t.fOwn.l[j]? = some o → RO m o
  | 0, k, h, hr, _, _, _, _, _ => by cases hr
  | n + 1, k, h, hr, j, o, hj, hn, ho => by
    have hj4 : j < 4 := by have := (List.getElem?_eq_some_iff.1 ho).1; rw [A4_len] at this; exact this
    rw [ref05_Right_L1, if_pos (by simp; omega), idx_lt (by rw [A4_len]; omega), obs] at hr
    obtain ⟨x, hx, hr⟩ := bind_next hr
    cases x with
    | true => rw [if_pos rfl] at hr; cases hr
    | false =>
      rw [if_neg (by simp), w64_succ (m := 5) (by omega) (by omega)] at hr
      by_cases he : k = j
      · subst he
        rw [if_neg (by simp; omega), if_pos (by simpa using hn)] at hx
        obtain ⟨b, hb, hx⟩ := bind_next hx
        cases b with
        | false => rw [if_pos (by simp)] at hx; cases hx
        | true =>
          have : o = t.fOwn.l[k]'(by rw [A4_len]; omega) := by
            have := (List.getElem?_eq_some_iff.1 ho).2; exact this.symm
          rw [this]; exact right04 hb
      · exact right05_L n (k + 1) (by omega) hr j o (by omega) hn ho
theorem right05 {t : GType} {m : Int} (h : ref05_Right t m = some true) : ∀ o ∈ own t, RO m o := by
  intro o ho
  by_cases hk : t.fKind = 2
  · unfold ref05_Right at h
    rw [if_neg (by simp [hk]), obs, hk] at h
    simp only [show ((2 : Int) == 1) = false from rfl, show ((2 : Int) != 2) = false from rfl] at h
    rw [if_neg (by simp), if_neg (by simp)] at h
    obtain ⟨x, hx, h⟩ := bind_next h
    cases x with
    | true => rw [if_pos rfl] at h; cases h
    | false =>
      rw [if_neg (by simp)] at h
      obtain ⟨y, _, hx⟩ := bind_next hx
      cases y with
      | false => rw [if_pos (by simp)] at hx; cases hx
      | true =>
        rw [if_neg (by simp)] at hx
        have hN : 0 ≤ t.fN ∧ t.fN ≤ 3 := by
          by_cases h0 : t.fN < 0
          · rw [if_pos (by simpa using h0)] at hx; cases hx
          · rw [if_neg (by simpa using h0)] at hx; simp at hx; omega
        obtain ⟨z, hz, h⟩ := bind_next h
        cases z with
        | stop v =>
          -- a stop is a 'no'
          exfalso
          have hs : ∀ (n k : Nat) v, ref05_Right_L1 t m n (k : Int) = some (.stop v) → v = false := by
            intro n
            induction n with
            | zero => intro k v h; cases h
            | succ n ih =>
              intro k v h
              rw [ref05_Right_L1] at h
              by_cases h4 : (k : Int) < 4
              · rw [if_pos (by simpa using h4)] at h
                obtain ⟨_, _, h⟩ := bind_next h
                obtain ⟨x, _, h⟩ := bind_next h
                cases x with
                | true => rw [if_pos rfl] at h; cases h; rfl
                | false => rw [if_neg (by simp), w64 (by omega) (by omega)] at h; exact ih (k + 1) v (by simpa using h)
              · rw [if_neg (by simpa using h4)] at h; cases h
          have := hs _ 0 v hz
          subst this
          cases h
        | next u =>
          unfold own at ho
          rw [if_pos hk] at ho
          obtain ⟨j, hj, e⟩ := List.mem_take_iff_getElem.1 ho
          have hj' : j < cnt3 t.fN + 1 := by omega
          refine right05_L 5 0 rfl hz j o (by omega) ?_ (by rw [List.getElem?_eq_getElem (by rw [A4_len] at *; omega)]; rw [e])
          unfold cnt3 at hj'
          split at hj'
          · omega
          · split at hj' <;> omega
  · rw [show own t = [] by unfold own; rw [if_neg hk]] at ho; cases ho

theorem ref26_Hidden_eq (t : GType) : ref26_Hidden t = some ((own t).any fun o => decide (o.fKind = 8)) := by
  have hl := own_le t
  unfold ref26_Hidden
  rw [ref05_Owners_eq, obs, anyL (ref26_Hidden_L1 (own t)) (r := true) (b := fun o => decide (o.fKind = 8)) (by omega) (fun n x => by
    rw [ref26_Hidden_L1]
    by_cases h : decide (x < ((own t).length : Int)) = true
    · rw [if_pos h, if_pos h]
      cases idx (own t) x with
      | none => rfl
      | some y =>
        simp only [obs]
        by_cases h8 : y.fKind = 8
        · rw [if_pos (by simpa using h8), if_pos (by simpa using h8)]
        · rw [if_neg (by simpa using h8), if_neg (by simpa using h8)]
    · rw [if_neg h, if_neg h]), obs]
  cases (own t).any fun o => decide (o.fKind = 8) <;> rfl

theorem shown_L {l : List GOwner} (hl : l.length ≤ 4) : ∀ (n k : Nat) (b : Bool), n + k = l.length + 1 → k ≤ l.length → law26_AdaptShown_L1 l n b (k : Int) = some (b || (l.drop k).any fun o => decide (o.fKind = 1))
  | 0, k, b, h, hk => by omega
  | n + 1, k, b, h, hk => by
    rw [law26_AdaptShown_L1]
    by_cases hlt : k < l.length
    · rw [if_pos (by simpa using hlt), List.drop_eq_getElem_cons hlt, w64_succ hlt (by omega)]
      cases b with
      | true => rw [if_pos rfl, obs, shown_L hl n (k + 1) _ (by omega) (by omega)]; rfl
      | false => rw [if_neg (by simp), idx_lt hlt, obs, obs, shown_L hl n (k + 1) _ (by omega) (by omega), List.any_cons, Bool.false_or, show (l[k].fKind == 1) = decide (l[k].fKind = 1) from rfl]
    · rw [if_neg (by simpa using hlt), List.drop_eq_nil_of_le (by omega)]; simp
theorem made_dom {p : List GClass} (hp : p.length ≤ 1000000) (hA : aboveOk p) {v : GView_adapt} {cl : List UInt8} {l : List GOwner} (hr : raiseS p v.fObject.fClass (own v.fObject) cl = (l, true)) (ht : v.fThis = false) (hu : uniq v.fObject = false) (hm : v.fMode = 1) : ∃ q, adapt_made p v cl = some q ∧ ∀ z, q.q z = some (if z.fKind = 1 then ⟨8, 0⟩ else putS z l) := by
  unfold adapt_made
  rw [kind_Owners_eq, obs, raise_Raise_eq hp hA, hr, obs, if_neg (by simp), if_neg (by simp [ht]), kind_Unique_eq, hu, obs, if_neg (by simp), if_pos (by simp [hm])]
  refine ⟨_, rfl, fun z => ?_⟩
  show adapt_made_2 z l = _
  unfold adapt_made_2 adapt_dark
  rw [owner_Put_eq, obs, obs]
  by_cases h : z.fKind = 1
  · rw [if_pos (by simpa using h), if_pos h]
  · rw [if_neg (by simpa using h), if_neg h]
theorem through_tot (z : GOwner) (a : List Int) (l : List GOwner) (b : List Int) (ha : a.length < 9223372036854775806) (hb : b.length < 9223372036854775806) : ∃ r, adapt_through_1 z a l b = some r := by
  unfold adapt_through_1
  rw [contains_eq ha, obs]
  split
  · rw [owner_Put_eq, obs]; exact ⟨_, rfl⟩
  · rw [contains_eq hb, obs]
    split
    · exact ⟨_, rfl⟩
    · unfold adapt_dark; exact ⟨_, rfl⟩
theorem all_some {q : GOwner → Option GOwner} (h : ∀ z, ∃ r, q z = some r) : ∃ g : GOwner → GOwner, ∀ z, q z = some (g z) := ⟨fun z => (h z).choose, fun z => (h z).choose_spec⟩
theorem made_mod {p : List GClass} (hp : p.length ≤ 1000000) (hA : aboveOk p) {v : GView_adapt} {cl : List UInt8} {x : GOwner} {l : List GOwner} (hr : raiseS p v.fObject.fClass (own v.fObject) cl = (x :: l, true)) (ht : v.fThis = false) (hu : uniq v.fObject = false) (hm : v.fMode = 2) : ∃ (q : Clo0) (g : GOwner → GOwner), adapt_made p v cl = some q ∧ ∀ z, q.q z = some (g z) := by
  unfold adapt_made
  have hi : idx (x :: l) 0 = some x := rfl
  rw [kind_Owners_eq, obs, raise_Raise_eq hp hA, hr, obs, if_neg (by simp), if_neg (by simp [ht]), kind_Unique_eq, hu, obs, if_neg (by simp), if_neg (by simp [hm]), if_pos (by simp [hm])]
  simp only [hi, obs]
  have key : ∀ a : List Int, a.length < 9223372036854775806 → ∃ (q : Clo0) (g : GOwner → GOwner), Option.bind (adapt_through (x :: l) a [5, 6]) (fun (y34 : (List Int) × (List GOwner) × (List Int)) => some (⟨86, [.vp ((eL 1 eI) y34.1), .vp ((eL 2 eGOwner) y34.2.1), .vp ((eL 1 eI) y34.2.2)], fun z => adapt_through_1 z y34.1 y34.2.1 y34.2.2, Try_cal_86, fun z r h => adapt_through_1_ok h⟩ : Clo0)) = some q ∧ ∀ z, q.q z = some (g z) := by
    intro a ha
    obtain ⟨g, hg⟩ := all_some (fun z => through_tot z a (x :: l) [5, 6] ha (by simp))
    exact ⟨_, g, rfl, hg⟩
  have h : ∃ a : List Int, a.length < 9223372036854775806 ∧ (Option.bind (if (x.fKind != 1) = true then some (x.fKind != 2) else some false : Option Bool) fun x27 => if x27 = true then some ([] : List Int) else some [2]) = some a := by
    by_cases h1 : (x.fKind != 1) = true
    · rw [if_pos h1, obs]
      by_cases h2 : (x.fKind != 2) = true
      · rw [if_pos h2]; exact ⟨[], by simp, rfl⟩
      · rw [if_neg h2]; exact ⟨[2], by simp, rfl⟩
    · rw [if_neg h1, obs, if_neg (by simp)]; exact ⟨[2], by simp, rfl⟩
  obtain ⟨a, ha, he⟩ := h
  rw [he]
  simp only [obs]
  exact key a ha
theorem awake26_true : law26_awake = some true := by decide +kernel
/-- What is put for an owner of a right type is not hidden, if none of them is. -/
theorem putS_shown {m : Nat} {l : List GOwner} (hl : l.length = m + 1) (h8 : (l.any fun o => decide (o.fKind = 8)) = false) {o : GOwner} (h : RO (m : Int) o) : (putS o l).fKind ≠ 8 := by
  have hmem : ∀ y, y ∈ l → y.fKind ≠ 8 := fun y hy e => by
    have : (l.any fun o => decide (o.fKind = 8)) = true := List.any_eq_true.2 ⟨y, hy, by simpa using e⟩
    rw [h8] at this; cases this
  have hat : ∀ n : Int, 0 ≤ n → n ≤ m → (putAt l n).fKind ≠ 8 := fun n h0 h1 => by
    unfold putAt
    rw [idx_in h0 (by omega)]
    exact hmem _ (List.getElem_mem _)
  obtain ⟨h3, _, h8'⟩ := h
  unfold putS
  by_cases e3 : o.fKind = 3
  · have := h3 e3
    rw [if_pos e3]; exact hat _ (by omega) (by omega)
  · rw [if_neg e3]
    by_cases e2 : o.fKind = 2
    · rw [if_pos e2]; exact hat _ (by omega) (by omega)
    · rw [if_neg e2]; exact h8'
theorem law26_AdaptShown_true {a0 : List GClass} {a1 a2 : GType} (h0 : listok (fun y => goodGClass y) a0) (_h1 : goodGType a1) (h2 : goodGType a2) : law26_AdaptShown a0 a1 a2 = some true := by
  have haw := awake26_true
  have hl := h0.1
  have hs := h2.2.1
  simp only [strok, maxLen] at hl hs
  unfold law26_AdaptShown
  rw [ref13_Find_eq (by omega), obs]
  obtain ⟨b, hb, hg⟩ := great26_eq (p := a0) (by omega)
  rw [hb, obs]
  cases b with
  | true => rw [if_pos rfl, obs, if_pos rfl, haw]; rfl
  | false =>
    obtain ⟨hp, hA⟩ := hg rfl
    rw [if_neg (by simp)]
    cases hf : fi a0 a1.fClass with
    | none => rw [fnd_none hf, if_pos (by simp), obs, if_pos rfl, haw]; rfl
    | some i =>
      obtain ⟨c, hc, hcn⟩ := fi_spec hf
      have hi : idx a0 (i : Int) = some c := by rw [idx_nat]; exact hc
      rw [fnd_some hf, if_neg (by simp), hi, obs, obs, obs]
      by_cases h3 : (c.fParams.length : Int) > 3
      · rw [if_pos (by simpa using h3), obs, if_pos rfl, haw]; rfl
      rw [if_neg (by simpa using h3)]
      have h3 : c.fParams.length ≤ 3 := by omega
      by_cases hk1 : a1.fKind = 2
      case neg => rw [if_pos (by simpa using hk1), obs, if_pos rfl, haw]; rfl
      rw [if_neg (by simpa using hk1)]
      by_cases hn1 : a1.fN = (c.fParams.length : Int)
      case neg => rw [if_pos (by simpa using hn1), obs, if_pos rfl, haw]; rfl
      rw [if_neg (by simpa using hn1), ref05_Unique_eq, obs]
      by_cases hu : uniq a1 = true
      · rw [if_pos hu, obs, if_pos rfl, haw]; rfl
      rw [if_neg hu]
      have hu : uniq a1 = false := by simpa using hu
      obtain ⟨r, hr⟩ := tot_TRight (t := a2) (c.fParams.length : Int) (by omega)
      rw [hr, obs]
      cases r with
      | false => rw [if_pos (by simp), obs, if_pos rfl, haw]; rfl
      | true =>
        rw [if_neg (by simp), ref26_Hidden_eq, obs, obs]
        by_cases h8 : ((own a1).any fun o => decide (o.fKind = 8)) = true
        · rw [if_pos h8, haw]; rfl
        rw [if_neg h8]
        have h8 : ((own a1).any fun o => decide (o.fKind = 8)) = false := by simpa using h8
        have hRO := right05 hr
        have hol : (own a1).length = c.fParams.length + 1 := by
          rw [own_len hk1, hn1]; unfold cnt3; split
          · omega
          · split <;> omega
        have hrs : raiseS a0 a1.fClass (own a1) a1.fClass = (own a1, true) := raiseS_self hf hc hol
        have hol2 := own_le a2
        rw [ref05_Owners_eq, obs, fuel_len, show (0 : Int) = ((0 : Nat) : Int) from rfl, shown_L hol2 _ 0 false (by omega) (by omega), obs, List.drop_zero, Bool.false_or]
        obtain ⟨q, hq, hqz⟩ := made_dom (p := a0) (by omega) hA (v := ({ fMode := 1, fObject := a1, fThis := false } : GView_adapt)) hrs rfl hu rfl
        obtain ⟨x, xs, hx⟩ : ∃ x xs, own a1 = x :: xs := by
          cases ho : own a1 with
          | nil => rw [ho] at hol; simp at hol
          | cons x xs => exact ⟨x, xs, rfl⟩
        obtain ⟨q2, g2, hq2, hqz2⟩ := made_mod (p := a0) (by omega) hA (v := ({ fMode := 2, fObject := a1, fThis := false } : GView_adapt)) (x := x) (l := xs) (hrs.trans (by rw [hx])) rfl hu rfl
        rw [see_eq hq hqz, obs]
        unfold adapt_Read
        rw [see_eq hq2 hqz2, obs]
        obtain ⟨d1, d2, d3⟩ := setN_keeps (fun z => if z.fKind = 1 then ⟨8, 0⟩ else putS z (own a1)) (own a2) 0 a2
        have d2 : (seeS (fun z => if z.fKind = 1 then ⟨8, 0⟩ else putS z (own a1)) a2).fClass = a2.fClass := d2
        have d3 : (seeS (fun z => if z.fKind = 1 then ⟨8, 0⟩ else putS z (own a1)) a2).fN = a2.fN := d3
        -- what is hidden
        have hd : ((own (seeS (fun z => if z.fKind = 1 then ⟨8, 0⟩ else putS z (own a1)) a2)).any fun o => decide (o.fKind = 8)) = (own a2).any fun o => decide (o.fKind = 1) := by
          rw [see_own, List.any_map]
          have : ∀ l : List GOwner, (∀ o ∈ l, RO (c.fParams.length : Int) o) → l.any ((fun o => decide (o.fKind = 8)) ∘ gg (fun z => if z.fKind = 1 then ⟨8, 0⟩ else putS z (own a1))) = l.any fun o => decide (o.fKind = 1) := by
            intro l
            induction l with
            | nil => intro _; rfl
            | cons o l ih =>
              intro h
              rw [List.any_cons, List.any_cons, ih (fun o ho => h o (by simp [ho]))]
              congr 1
              have ho := h o (by simp)
              unfold gg
              by_cases e : o.fKind = 1
              · simp [e]
              · have := putS_shown hol h8 ho
                simp [e, this]
          exact this _ hRO
        -- what is read
        obtain ⟨m, hm, hmh⟩ : ∃ m, (Option.bind (if ((seeS g2 a2).fKind == 2) = true then
            if (({ fMode := 2, fObject := a1, fThis := false } : GView_adapt).fMode == 2) = true then
              Option.bind (kind_Unique ({ fMode := 2, fObject := a1, fThis := false } : GView_adapt).fObject) fun (y7 : Bool) =>
              if (!y7) = true then
                some ((seeS g2 a2).fOwn.a0.fKind == 8)
              else
                some false
            else
              some false
          else
            some false : Option (Bool)) fun x10 =>
          if x10 = true then
            some ({ (seeS g2 a2) with fOwn := ({ (seeS g2 a2).fOwn with a0 := ({ fKind := 5, fN := 0 } : GOwner) } : A4 GOwner) } : GType)
          else
            some (seeS g2 a2)) = some m ∧ (¬ (own a2).length > 1 → ((own m).any fun o => decide (o.fKind = 8)) = false) := by
          obtain ⟨e1, _, e3⟩ := setN_keeps g2 (own a2) 0 a2
          have e1 : (seeS g2 a2).fKind = a2.fKind := e1
          have e3 : (seeS g2 a2).fN = a2.fN := e3
          generalize seeS g2 a2 = t at e1 e3
          by_cases hk : a2.fKind = 2
          · rw [if_pos (by simp [e1, hk]), if_pos (by simp), kind_Unique_eq]
            rw [show uniq (({ fMode := 2, fObject := a1, fThis := false } : GView_adapt).fObject) = false from hu, obs, if_pos (by simp), obs]
            have hone : ∀ t' : GType, t'.fKind = a2.fKind → t'.fN = a2.fN → ¬ (own a2).length > 1 → own t' = [t'.fOwn.a0] := by
              intro t' f1 f3 hlen
              rw [own_len hk] at hlen
              unfold own
              rw [if_pos (by rw [f1, hk]), f3, show cnt3 a2.fN = 0 by omega]; rfl
            by_cases h5 : t.fOwn.a0.fKind = 8
            · rw [if_pos (by simpa using h5)]
              exact ⟨_, rfl, fun hlen => by
                show ((own (GType.mk t.fKind t.fClass t.fN ⟨⟨5, 0⟩, t.fOwn.a1, t.fOwn.a2, t.fOwn.a3⟩)).any _) = false
                rw [hone (GType.mk t.fKind t.fClass t.fN ⟨⟨5, 0⟩, t.fOwn.a1, t.fOwn.a2, t.fOwn.a3⟩) e1 e3 hlen]; rfl⟩
            · rw [if_neg (by simpa using h5)]
              exact ⟨_, rfl, fun hlen => by rw [hone _ e1 e3 hlen]; simp [h5]⟩
          · rw [if_neg (by simp [e1, hk]), obs, if_neg (by simp)]
            exact ⟨_, rfl, fun _ => by rw [show own t = [] by unfold own; rw [if_neg (by rw [e1]; exact hk)]]; rfl⟩
        rw [hm, obs, hidden_eq, obs, hd, if_pos (by simp)]
        by_cases h1 : (own a2).length > 1
        · rw [if_pos (by simp; omega), d2, if_pos (by simp), d3, if_pos (by simp), haw]; rfl
        · rw [if_neg (by simp; omega), hidden_eq, obs, hmh h1, if_pos (by simp), d2, if_pos (by simp), d3, if_pos (by simp), haw]; rfl

end Go.Proofs.Ytkfgkkbfipgklaa
