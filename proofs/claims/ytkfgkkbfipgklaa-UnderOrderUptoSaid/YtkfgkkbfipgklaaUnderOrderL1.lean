/- A part of the proof that the law UnderOrder gives true for every input. -/
import Derived.Test.YtkfgkkbfipgklaaUnderOrderA2
import Derived.Test.YtkfgkkbfipgklaaUnderOrderA3
import Derived.Test.YtkfgkkbfipgklaaUnderOrderT
import Derived.Test.YtkfgkkbfipgklaaUnderOrderD
/- The plain law. -/
namespace Go.Proofs.Ytkfgkkbfipgklaa
open Go.RowKit Go.Abs
/-! ### The first class of a name. -/
def fiN : List GClass → Nat → List UInt8 → Option Nat
  | [], _, _ => none
  | c :: t, k, name => if c.fName == name then some k else fiN t (k + 1) name
def fi (p : List GClass) (name : List UInt8) : Option Nat := fiN p 0 name
def fnd (p : List GClass) (name : List UInt8) : Int := match fi p name with | some i => (i : Int) | none => -1
theorem fiN_spec : ∀ (l : List GClass) (k : Nat) (name : List UInt8) (i : Nat), fiN l k name = some i → k ≤ i ∧ ∃ c, l[i - k]? = some c ∧ c.fName = name
  | [], k, name, i, h => by simp [fiN] at h
  | c :: t, k, name, i, h => by
    simp only [fiN] at h
    split at h
    · rename_i hc
      cases h
      exact ⟨Nat.le_refl _, c, by simp, by simpa using hc⟩
    · obtain ⟨h1, c', h2, h3⟩ := fiN_spec t (k + 1) name i h
      refine ⟨by omega, c', ?_, h3⟩
      rw [show i - k = (i - (k + 1)) + 1 by omega, List.getElem?_cons_succ]
      exact h2
theorem fiN_some : ∀ (l : List GClass) (k : Nat) (c : GClass), c ∈ l → ∃ i, fiN l k c.fName = some i
  | [], k, c, h => by simp at h
  | c' :: t, k, c, h => by
    simp only [fiN]
    split
    · exact ⟨k, rfl⟩
    · rename_i hc
      rcases List.mem_cons.1 h with rfl | h
      · simp at hc
      · exact fiN_some t (k + 1) c h
theorem fi_spec {p : List GClass} {name : List UInt8} {i : Nat} (h : fi p name = some i) : ∃ c, p[i]? = some c ∧ c.fName = name := by
  obtain ⟨_, c, h1, h2⟩ := fiN_spec p 0 name i h
  exact ⟨c, by simpa using h1, h2⟩
theorem fi_lt {p : List GClass} {name : List UInt8} {i : Nat} (h : fi p name = some i) : i < p.length := by
  obtain ⟨c, h1, _⟩ := fi_spec h
  exact (List.getElem?_eq_some_iff.1 h1).1
theorem fi_some {p : List GClass} {c : GClass} (h : c ∈ p) : ∃ i, fi p c.fName = some i := fiN_some p 0 c h
theorem fnd_some {p : List GClass} {name : List UInt8} {i : Nat} (h : fi p name = some i) : fnd p name = (i : Int) := by unfold fnd; rw [h]
theorem fnd_none {p : List GClass} {name : List UInt8} (h : fi p name = none) : fnd p name = -1 := by unfold fnd; rw [h]
/-- What a loop over a list that stops at the first hit comes to. -/
def hit (o : Option Nat) : Ctl Int Unit := match o with | some i => .stop (i : Int) | none => .next ()

theorem indexFunc_L {p : List GClass} (name : List UInt8) (hp : p.length < 9223372036854775806) : ∀ (n k : Nat), n + k = p.length + 1 → k ≤ p.length →
    slices_IndexFunc_api_Class_L1 p (fun (z1 : GClass) => table_Find_1 z1 name) n (k : Int) = some (hit (fiN (p.drop k) k name))
  | 0, k, h, hk => by omega
  | n + 1, k, h, hk => by
    simp only [slices_IndexFunc_api_Class_L1]
    by_cases hlt : k < p.length
    · rw [if_pos (by simpa using hlt), idx_lt hlt, List.drop_eq_getElem_cons hlt]
      simp only [obs, table_Find_1, fiN]
      by_cases hc : (p[k].fName == name) = true
      · rw [if_pos hc, if_pos hc]; rfl
      · rw [if_neg hc, if_neg hc, w64_succ hlt (by omega)]
        exact indexFunc_L name hp n (k + 1) (by omega) (by omega)
    · rw [if_neg (by simpa using hlt), List.drop_eq_nil_of_le (by omega)]
      rfl
theorem table_Find_eq {p : List GClass} (hp : p.length < 9223372036854775806) (name : List UInt8) : table_Find p name = some (fnd p name) := by
  unfold table_Find slices_IndexFunc_api_Class
  have h := indexFunc_L name hp (p.length + 1) 0 (by omega) (by omega)
  rw [show (((p.length : Int) : Int) - (0)).toNat + 1 = p.length + 1 by omega, show (0 : Int) = ((0 : Nat) : Int) from rfl, h]
  simp only [List.drop_zero, obs]
  unfold fnd fi hit
  cases fiN p 0 name <;> rfl

theorem ref13_Find_L {p : List GClass} (name : List UInt8) (hp : p.length < 9223372036854775806) : ∀ (n k : Nat), n + k = p.length + 1 → k ≤ p.length →
    ref13_Find_L1 p name n (k : Int) = some (hit (fiN (p.drop k) k name))
  | 0, k, h, hk => by omega
  | n + 1, k, h, hk => by
    simp only [ref13_Find_L1]
    by_cases hlt : k < p.length
    · rw [if_pos (by simpa using hlt), idx_lt hlt, List.drop_eq_getElem_cons hlt]
      simp only [obs, fiN]
      by_cases hc : (p[k].fName == name) = true
      · rw [if_pos hc, if_pos hc]; rfl
      · rw [if_neg hc, if_neg hc, w64_succ hlt (by omega)]
        exact ref13_Find_L name hp n (k + 1) (by omega) (by omega)
    · rw [if_neg (by simpa using hlt), List.drop_eq_nil_of_le (by omega)]
      rfl
theorem ref13_Find_eq {p : List GClass} (hp : p.length < 9223372036854775806) (name : List UInt8) : ref13_Find p name = some (fnd p name) := by
  unfold ref13_Find
  have h := ref13_Find_L name hp (p.length + 1) 0 (by omega) (by omega)
  rw [show (((p.length : Int) : Int) - (0)).toNat + 1 = p.length + 1 by omega, show (0 : Int) = ((0 : Nat) : Int) from rfl, h]
  simp only [List.drop_zero, obs]
  unfold fnd fi hit
  cases fiN p 0 name <;> rfl

/-! ### The walk up. -/
/-- The class that stands at `i`, its name's super. -/
def sup (p : List GClass) (i : Nat) : List UInt8 := match p[i]? with | some c => c.fSuper | none => []
def upN (p : List GClass) : Nat → List UInt8 → List Nat
  | 0, _ => []
  | n + 1, name => match fi p name with
    | none => []
    | some i => if sup p i == [] then [i] else i :: upN p n (sup p i)
theorem itR_up_n_eq {p : List GClass} (hp : p.length < 9223372036854775806) : ∀ (n : Nat) (name : List UInt8), itR_up_n p n name = some ((upN p n name).map Int.ofNat)
  | 0, name => rfl
  | n + 1, name => by
    simp only [itR_up_n, upN, table_Find_eq hp, obs]
    cases hf : fi p name with
    | none => rw [fnd_none hf]; simp
    | some i =>
      rw [fnd_some hf, if_neg (by omega)]
      obtain ⟨c, hc, _⟩ := fi_spec hf
      have hidx : idx p (i : Int) = some c := by rw [idx_nat]; exact hc
      rw [hidx]
      have hs : sup p i = c.fSuper := by unfold sup; rw [hc]
      simp only [obs, hs]
      by_cases he : (c.fSuper == []) = true
      · rw [if_pos he, if_pos he]; rfl
      · rw [if_neg he, if_neg he, itR_up_n_eq hp n c.fSuper]; rfl
theorem itR_up_eq {p : List GClass} (hp : p.length < 9223372036854775806) (name : List UInt8) : itR_up p name = some ((upN p (p.length + 1) name).map Int.ofNat) := by
  unfold itR_up; rw [if_pos hp, itR_up_n_eq hp]

/-- The chain: up to the first one that comes twice. -/
def chN (p : List GClass) : Nat → List Nat → List UInt8 → List Nat
  | 0, out, _ => out
  | n + 1, out, name => match fi p name with
    | none => out
    | some i => if i ∈ out then out else if sup p i == [] then out ++ [i] else chN p n (out ++ [i]) (sup p i)
def ch (p : List GClass) (name : List UInt8) : List Nat := chN p (p.length + 1) [] name

theorem nodup_len : ∀ (L : Nat) (l : List Nat), l.Nodup → (∀ x ∈ l, x < L) → l.length ≤ L
  | 0, l, _, h => by
    cases l with
    | nil => exact Nat.le_refl _
    | cons x l => have := h x (by simp); omega
  | L + 1, l, hn, h => by
    have h1 := nodup_len L (l.erase L) (hn.erase L) (fun x hx => by
      have := (hn.mem_erase_iff.1 hx)
      have := h x this.2
      omega)
    by_cases hm : L ∈ l
    · have := List.length_erase_of_mem hm; omega
    · rw [List.erase_of_not_mem hm] at h1; omega

/-- What holds on the way up. -/
structure Way (p : List GClass) (out : List Nat) (name : List UInt8) : Prop where
  nd : out.Nodup
  lt : ∀ x ∈ out, x < p.length
  nx : ∀ x ∈ out, sup p x ≠ [] ∧ (sup p x = name ∨ ∃ j, fi p (sup p x) = some j ∧ j ∈ out)
  own : ∀ x ∈ out, ∃ nm, fi p nm = some x

theorem Way.nil (p : List GClass) (name : List UInt8) : Way p [] name := ⟨List.nodup_nil, by simp, by simp, by simp⟩
theorem Way.snoc {p : List GClass} {out : List Nat} {name : List UInt8} {i : Nat} (h : Way p out name) (hf : fi p name = some i) (hi : i ∉ out) (hs : sup p i ≠ []) : Way p (out ++ [i]) (sup p i) := by
  refine ⟨?_, fun x hx => ?_, fun x hx => ?_, fun x hx => ?_⟩
  · refine List.nodup_append.2 ⟨h.nd, by simp, fun a ha b hb => ?_⟩
    simp at hb; subst hb; rintro rfl; exact hi ha
  · rcases List.mem_append.1 hx with hx | hx
    · exact h.lt x hx
    · simp at hx; subst hx; exact fi_lt hf
  · rcases List.mem_append.1 hx with hx | hx
    · obtain ⟨h1, h2⟩ := h.nx x hx
      refine ⟨h1, .inr ?_⟩
      rcases h2 with h2 | ⟨j, h2, h3⟩
      · exact ⟨i, by rw [h2]; exact hf, by simp⟩
      · exact ⟨j, h2, by simp [h3]⟩
    · simp at hx; subst hx; exact ⟨hs, .inl rfl⟩
  · rcases List.mem_append.1 hx with hx | hx
    · exact h.own x hx
    · simp at hx; subst hx; exact ⟨name, hf⟩

/-- A set of classes that one does not leave upwards. -/
def Shut (p : List GClass) (S : List Nat) : Prop := ∀ x ∈ S, sup p x ≠ [] → ∀ j, fi p (sup p x) = some j → j ∈ S
theorem upN_shut {p : List GClass} {S : List Nat} (h : Shut p S) : ∀ (n : Nat) (name : List UInt8), (∀ j, fi p name = some j → j ∈ S) → ∀ x ∈ upN p n name, x ∈ S
  | 0, name, _, x, hx => by simp [upN] at hx
  | n + 1, name, hs, x, hx => by
    simp only [upN] at hx
    cases hf : fi p name with
    | none => rw [hf] at hx; simp at hx
    | some i =>
      rw [hf] at hx
      have hi := hs i hf
      simp only at hx
      split at hx
      · simp at hx; subst hx; exact hi
      · rename_i he
        rcases List.mem_cons.1 hx with rfl | hx
        · exact hi
        · exact upN_shut h n _ (fun j hj => h i hi (by simpa using he) j hj) x hx
/-- .. where each has one above it: the walk never ends. -/
theorem upN_round {p : List GClass} {S : List Nat} (h : ∀ x ∈ S, sup p x ≠ [] ∧ ∃ j, fi p (sup p x) = some j ∧ j ∈ S) : ∀ (n : Nat) (name : List UInt8) (i : Nat), fi p name = some i → i ∈ S → (upN p n name).length = n
  | 0, name, i, _, _ => rfl
  | n + 1, name, i, hf, hi => by
    obtain ⟨h1, j, h2, h3⟩ := h i hi
    simp only [upN, hf]
    rw [if_neg (by simpa using h1)]
    simp [upN_round h n _ j h2 h3]

/-- Did the chain end because one came twice? -/
def back (p : List GClass) (l : List Nat) : Bool := match l.getLast? with
  | none => false
  | some i => !(sup p i == []) && (match fi p (sup p i) with | some j => decide (j ∈ l) | none => false)

/-- **The walk and the chain.** -/
theorem upN_chN {p : List GClass} : ∀ (n : Nat) (out : List Nat) (name : List UInt8), n + out.length = p.length + 1 → Way p out name → (out = [] ∨ ∃ x, out.getLast? = some x ∧ sup p x = name) →
    ∃ R, out ++ upN p n name = chN p n out name ++ R ∧ (∀ x ∈ R, x ∈ chN p n out name) ∧ (∀ x ∈ out, x ∈ chN p n out name) ∧ (∀ j, fi p name = some j → j ∈ chN p n out name) ∧ Shut p (chN p n out name) ∧ (chN p n out name).Nodup ∧ (∀ x ∈ chN p n out name, x < p.length ∧ ∃ nm, fi p nm = some x) ∧
      (back p (chN p n out name) = decide ((upN p n name).length = n))
  | 0, out, name, hn, hw, hl => by
    exfalso
    have := nodup_len p.length out hw.nd hw.lt
    omega
  | n + 1, out, name, hn, hw, hl => by
    have hlen := nodup_len p.length out hw.nd hw.lt
    cases hf : fi p name with
    | none =>
      simp only [upN, chN, hf]
      refine ⟨[], by simp, by simp, fun x hx => hx, by simp, fun x hx hne j hj => ?_, hw.nd, fun x hx => ⟨hw.lt x hx, hw.own x hx⟩, ?_⟩
      · rcases (hw.nx x hx).2 with h1 | ⟨j', h1, h2⟩
        · rw [h1, hf] at hj; cases hj
        · rw [h1] at hj; cases hj; exact h2
      · have : back p out = false := by
          unfold back
          rcases hl with rfl | ⟨x, h1, h2⟩
          · rfl
          · rw [h1]; simp only [h2, hf, Bool.and_false]
        rw [this]; simp
    | some i =>
      simp only [upN, chN, hf]
      by_cases hi : i ∈ out
      · rw [if_pos hi]
        have hround : ∀ x ∈ out, sup p x ≠ [] ∧ ∃ j, fi p (sup p x) = some j ∧ j ∈ out := by
          intro x hx
          obtain ⟨h1, h2⟩ := hw.nx x hx
          refine ⟨h1, ?_⟩
          rcases h2 with h2 | h2
          · exact ⟨i, by rw [h2]; exact hf, hi⟩
          · exact h2
        have hshut : Shut p out := fun x hx _ j hj => by
          obtain ⟨_, j', h1, h2⟩ := hround x hx
          rw [h1] at hj; cases hj; exact h2
        have hsub := upN_shut hshut (n + 1) name (fun j hj => by rw [hf] at hj; cases hj; exact hi)
        have hfull := upN_round hround (n + 1) name i hf hi
        simp only [upN, hf] at hsub hfull
        refine ⟨_, rfl, hsub, fun x hx => hx, fun j hj => by cases hj; exact hi, hshut, hw.nd, fun x hx => ⟨hw.lt x hx, hw.own x hx⟩, ?_⟩
        rw [hfull]
        have : back p out = true := by
          unfold back
          rcases hl with rfl | ⟨x, h1, h2⟩
          · simp at hi
          · have hx : x ∈ out := List.mem_of_getLast? h1
            rw [h1]
            simp only [h2, hf, hi, decide_true, Bool.and_true]
            have := (hw.nx x hx).1
            rw [h2] at this
            simpa using this
        rw [this]; simp
      · rw [if_neg hi]
        by_cases hs : (sup p i == []) = true
        · rw [if_pos hs, if_pos hs]
          have hs' : sup p i = [] := by simpa using hs
          have hw2 : (out ++ [i]).Nodup := List.nodup_append.2 ⟨hw.nd, by simp, fun a ha b hb => by
            simp at hb; subst hb; rintro rfl; exact hi ha⟩
          have hlt2 : ∀ x ∈ out ++ [i], x < p.length := fun x hx => by
            rcases List.mem_append.1 hx with hx | hx
            · exact hw.lt x hx
            · simp at hx; subst hx; exact fi_lt hf
          have hlen2 := nodup_len p.length _ hw2 hlt2
          refine ⟨[], by simp, by simp, fun x hx => by simp [hx], fun j hj => by cases hj; simp, fun x hx hne j hj => ?_, hw2, fun x hx => ⟨hlt2 x hx, ?_⟩, ?_⟩
          · rcases List.mem_append.1 hx with hx | hx
            · rcases (hw.nx x hx).2 with h1 | ⟨j', h1, h2⟩
              · rw [h1, hf] at hj; cases hj; simp
              · rw [h1] at hj; cases hj; simp [h2]
            · simp at hx; subst hx; exact absurd hs' hne
          · rcases List.mem_append.1 hx with hx | hx
            · exact hw.own x hx
            · simp at hx; subst hx; exact ⟨name, hf⟩
          · have : back p (out ++ [i]) = false := by
              unfold back; simp [hs']
            rw [this]
            simp at hlen2
            simp; omega
        · rw [if_neg hs, if_neg hs]
          have hs' : sup p i ≠ [] := by simpa using hs
          obtain ⟨R, k1, k2, k3, k4, k5, k6, k7, k8⟩ := upN_chN n (out ++ [i]) (sup p i) (by simp; omega) (hw.snoc hf hi hs') (.inr ⟨i, by simp, rfl⟩)
          refine ⟨R, by rw [← k1]; simp, k2, fun x hx => k3 x (by simp [hx]), fun j hj => by cases hj; exact k3 i (by simp), k5, k6, k7, ?_⟩
          rw [k8]; simp
/-- The facts about a name's chain. -/
theorem ch_facts (p : List GClass) (name : List UInt8) : ∃ R, upN p (p.length + 1) name = ch p name ++ R ∧ (∀ x ∈ R, x ∈ ch p name) ∧ (∀ j, fi p name = some j → j ∈ ch p name) ∧ Shut p (ch p name) ∧ (ch p name).Nodup ∧ (∀ x ∈ ch p name, x < p.length ∧ ∃ nm, fi p nm = some x) ∧
    (back p (ch p name) = decide ((upN p (p.length + 1) name).length = p.length + 1)) := by
  obtain ⟨R, k1, k2, k3, k4, k5, k6, k7, k8⟩ := upN_chN (p.length + 1) [] name (by simp) (Way.nil p name) (.inl rfl)
  exact ⟨R, by unfold ch; simpa using k1, k2, k4, k5, k6, k7, k8⟩
theorem mem_up {p : List GClass} {name : List UInt8} {x : Nat} : x ∈ upN p (p.length + 1) name ↔ x ∈ ch p name := by
  obtain ⟨R, k1, k2, _⟩ := ch_facts p name
  rw [k1]
  constructor
  · intro h
    rcases List.mem_append.1 h with h | h
    · exact h
    · exact k2 x h
  · intro h; simp [h]

/-! ### Chains, by the program and by the document. -/
theorem idxI_L {l : List Int} (a : Int) (hp : l.length < 9223372036854775806) : ∀ (n k : Nat), n + k = l.length + 1 → k ≤ l.length →
    ∃ r, slices_Index_int_L1 l a n (k : Int) = some r ∧ ((∃ v : Int, r = .stop v ∧ 0 ≤ v ∧ a ∈ l.drop k) ∨ (r = .next () ∧ a ∉ l.drop k))
  | 0, k, h, hk => by omega
  | n + 1, k, h, hk => by
    simp only [slices_Index_int_L1]
    by_cases hlt : k < l.length
    · rw [if_pos (by simpa using hlt), idx_lt hlt, List.drop_eq_getElem_cons hlt]
      simp only [obs]
      by_cases hc : (a == l[k]) = true
      · rw [if_pos hc]
        have hc' : a = l[k] := by simpa using hc
        exact ⟨_, rfl, .inl ⟨_, rfl, by omega, by rw [hc']; exact List.mem_cons_self⟩⟩
      · rw [if_neg hc, w64_succ hlt (by omega)]
        obtain ⟨r, h1, h2⟩ := idxI_L a hp n (k + 1) (by omega) (by omega)
        refine ⟨r, h1, ?_⟩
        have hne : a ≠ l[k] := by simpa using hc
        rcases h2 with ⟨v, h3, h4, h5⟩ | ⟨h3, h4⟩
        · exact .inl ⟨v, h3, h4, List.mem_cons_of_mem _ h5⟩
        · exact .inr ⟨h3, fun hm => (List.mem_cons.1 hm).elim hne h4⟩
    · rw [if_neg (by simpa using hlt), List.drop_eq_nil_of_le (by omega)]
      exact ⟨_, rfl, .inr ⟨rfl, by simp⟩⟩
theorem contains_eq {l : List Int} (hp : l.length < 9223372036854775806) (a : Int) : slices_Contains_int l a = some (decide (a ∈ l)) := by
  unfold slices_Contains_int slices_Index_int
  obtain ⟨r, h1, h2⟩ := idxI_L a hp (l.length + 1) 0 (by omega) (by omega)
  rw [show (((l.length : Int) : Int) - (0)).toNat + 1 = l.length + 1 by omega, show (0 : Int) = ((0 : Nat) : Int) from rfl, h1]
  rcases h2 with ⟨v, rfl, h3, h4⟩ | ⟨rfl, h4⟩
  · simp only [obs, Ctl.elim]
    simp only [List.drop_zero] at h4
    simp [h4, h3]
  · simp only [obs, Ctl.elim]
    simp only [List.drop_zero] at h4
    simp [h4]
theorem mem_cast {i : Nat} {l : List Nat} : ((i : Int) ∈ l.map Int.ofNat) ↔ i ∈ l := by
  rw [List.mem_map]
  constructor
  · rintro ⟨j, h1, h2⟩
    have : j = i := Int.ofNat.inj h2
    exact this ▸ h1
  · intro h; exact ⟨i, h, rfl⟩

theorem chain_runs {p : List GClass} (hp : p.length ≤ 1000000) : ∀ (n : Nat) (out : List Nat) (name : List UInt8), n + out.length = p.length + 1 →
    ∃ r, runs above_Chain_B1 ((upN p n name).map Int.ofNat) (out.map Int.ofNat) = some r ∧ Ctl.elim r (fun x => x) (fun x => x) = (chN p n out name).map Int.ofNat
  | 0, out, name, _ => ⟨_, rfl, rfl⟩
  | n + 1, out, name, hn => by
    have hout : (out.map Int.ofNat).length < 9223372036854775806 := by simp; omega
    have hroom : room (((out.map Int.ofNat).length : Int) + (([(0 : Int)].length : Nat) : Int)) 8 = some () := room_ok (by simp; omega)
    simp only [upN, chN]
    cases hf : fi p name with
    | none => exact ⟨_, rfl, rfl⟩
    | some i =>
      simp only
      have hstep : ∀ rest, runs above_Chain_B1 (((i : Nat) :: rest).map Int.ofNat) (out.map Int.ofNat) = if i ∈ out then some (.stop (out.map Int.ofNat)) else runs above_Chain_B1 (rest.map Int.ofNat) ((out ++ [i]).map Int.ofNat) := by
        intro rest
        simp only [List.map_cons, runs, above_Chain_B1]
        rw [contains_eq hout]
        simp only [obs]
        by_cases hi : i ∈ out
        · have : Int.ofNat i ∈ out.map Int.ofNat := mem_cast.2 hi
          rw [if_pos hi, if_pos (by simpa using this)]
          rfl
        · have hni : ¬ Int.ofNat i ∈ out.map Int.ofNat := fun h => hi (mem_cast.1 h)
          rw [if_neg hi, if_neg (by simpa using hni)]
          rw [show (([Int.ofNat i].length : Nat) : Int) = (([(0 : Int)].length : Nat) : Int) from rfl, hroom]
          simp [obs, Ctl.elim]
      by_cases hi : i ∈ out
      · rw [if_pos hi]
        split
        · rw [hstep, if_pos hi]; exact ⟨_, rfl, rfl⟩
        · rw [hstep, if_pos hi]; exact ⟨_, rfl, rfl⟩
      · rw [if_neg hi]
        by_cases hs : (sup p i == []) = true
        · rw [if_pos hs, if_pos hs, hstep, if_neg hi]
          exact ⟨_, rfl, rfl⟩
        · rw [if_neg hs, if_neg hs, hstep, if_neg hi]
          exact chain_runs hp n (out ++ [i]) (sup p i) (by simp; omega)
theorem above_Chain_eq {p : List GClass} (hp : p.length ≤ 1000000) (name : List UInt8) : above_Chain p name = some ((ch p name).map Int.ofNat) := by
  unfold above_Chain above_up
  simp only [obs]
  rw [itR_up_eq (by omega)]
  simp only [obs]
  obtain ⟨r, h1, h2⟩ := chain_runs hp (p.length + 1) [] name (by simp)
  rw [show ([] : List Int) = ([] : List Nat).map Int.ofNat from rfl, h1]
  unfold ch
  rw [← h2]
  cases r <;> rfl
theorem ch_len (p : List GClass) (name : List UInt8) : (ch p name).length ≤ p.length := by
  obtain ⟨_, _, _, _, _, k6, k7, _⟩ := ch_facts p name
  exact nodup_len _ _ k6 (fun x hx => (k7 x hx).1)
theorem ch_ne {p : List GClass} {name : List UInt8} {i : Nat} (h : fi p name = some i) : ch p name ≠ [] := by
  obtain ⟨_, _, _, k4, _⟩ := ch_facts p name
  intro e
  have := k4 i h
  rw [e] at this; simp at this

theorem has_L {l : List Int} (a : Int) (hp : l.length < 9223372036854775806) : ∀ (n k : Nat), n + k = l.length + 1 → k ≤ l.length →
    ref14_has_L1 l a n (k : Int) = some (if a ∈ l.drop k then .stop true else .next ())
  | 0, k, h, hk => by omega
  | n + 1, k, h, hk => by
    simp only [ref14_has_L1]
    by_cases hlt : k < l.length
    · rw [if_pos (by simpa using hlt), idx_lt hlt, List.drop_eq_getElem_cons hlt]
      simp only [obs]
      by_cases hc : (l[k] == a) = true
      · rw [if_pos hc]
        simp at hc
        rw [if_pos (by rw [← hc]; exact List.mem_cons_self)]
      · rw [if_neg hc, w64_succ hlt (by omega), has_L a hp n (k + 1) (by omega) (by omega)]
        have hne : a ≠ l[k] := fun e => hc (by simp [e])
        have e : (a ∈ l[k] :: l.drop (k + 1)) ↔ a ∈ l.drop (k + 1) := ⟨fun hm => (List.mem_cons.1 hm).resolve_left hne, List.mem_cons_of_mem _⟩
        simp only [e]
    · rw [if_neg (by simpa using hlt), List.drop_eq_nil_of_le (by omega)]
      simp
theorem has_eq {l : List Int} (hp : l.length < 9223372036854775806) (a : Int) : ref14_has l a = some (decide (a ∈ l)) := by
  unfold ref14_has
  have h := has_L a hp (l.length + 1) 0 (by omega) (by omega)
  rw [show (((l.length : Int) : Int) - (0)).toNat + 1 = l.length + 1 by omega, show (0 : Int) = ((0 : Nat) : Int) from rfl, h]
  simp only [obs, List.drop_zero]
  by_cases hm : a ∈ l
  · simp [hm, Ctl.elim]
  · simp [hm, Ctl.elim]

theorem refChain_L {p : List GClass} (hp : p.length ≤ 1000000) : ∀ (n : Nat) (out : List Nat) (name : List UInt8), n + out.length = p.length + 1 → Way p out name →
    ∃ r, ref14_Chain_L1 p (n + 1) (out.map Int.ofNat) (fnd p name) = some r ∧ Ctl.elim r (fun x => x) (fun x => x) = (chN p n out name).map Int.ofNat
  | 0, out, name, hn, hw => by
    exfalso
    have := nodup_len p.length out hw.nd hw.lt
    omega
  | n + 1, out, name, hn, hw => by
    have hout : (out.map Int.ofNat).length < 9223372036854775806 := by simp; omega
    have hroom : ∀ z : Int, room (((out.map Int.ofNat).length : Int) + (([z].length : Nat) : Int)) 8 = some () := fun z => room_ok (by simp; omega)
    simp only [ref14_Chain_L1]
    cases hf : fi p name with
    | none =>
      rw [fnd_none hf]
      refine ⟨.next (out.map Int.ofNat), rfl, ?_⟩
      simp [chN, hf, Ctl.elim]
    | some i =>
      rw [fnd_some hf, has_eq hout]
      obtain ⟨c, hc, _⟩ := fi_spec hf
      have hidx : idx p (i : Int) = some c := by rw [idx_nat]; exact hc
      have hsup : sup p i = c.fSuper := by unfold sup; rw [hc]
      have hd : decide ((i : Int) ≥ 0) = true := by simp
      rw [if_pos hd]
      simp only [chN, hf, obs, hroom, hidx]
      by_cases hi : i ∈ out
      · rw [if_neg (by simpa using mem_cast.2 hi), if_pos hi]
        exact ⟨_, rfl, rfl⟩
      · have hni : ¬ (i : Int) ∈ out.map Int.ofNat := fun h => hi (mem_cast.1 h)
        rw [if_pos (by simpa using hni), if_neg hi]
        have hcat : out.map Int.ofNat ++ [(i : Int)] = (out ++ [i]).map Int.ofNat := by simp
        rw [hcat, hsup]
        by_cases hs : (c.fSuper == []) = true
        · rw [if_pos hs, if_pos hs]
          exact ⟨_, rfl, rfl⟩
        · rw [if_neg hs, if_neg hs, ref13_Find_eq (by omega)]
          simp only [obs]
          have hs' : sup p i ≠ [] := by rw [hsup]; simpa using hs
          have := refChain_L hp n (out ++ [i]) (sup p i) (by simp; omega) (hw.snoc hf hi hs')
          rw [hsup] at this
          exact this
theorem ref_Chain_eq {p : List GClass} (hp : p.length ≤ 1000000) (name : List UInt8) : ref14_Chain p name = some ((ch p name).map Int.ofNat) := by
  unfold ref14_Chain
  rw [ref13_Find_eq (by omega)]
  obtain ⟨r, h1, h2⟩ := refChain_L hp (p.length + 1) [] name (by simp) (Way.nil p name)
  simp only [obs]
  rw [show p.length + 2 = p.length + 1 + 1 from rfl, show ([] : List Int) = ([] : List Nat).map Int.ofNat from rfl, h1]
  unfold ch
  rw [← h2]
  cases r <;> rfl

/-! ### Below, and where two meet. -/
theorem below_runs (y : Int) : ∀ (l : List Int), ∃ r, runs (above_Below_B1 y) l () = some r ∧ ((r = .stop () ∧ y ∈ l) ∨ (r = .next () ∧ y ∉ l))
  | [] => ⟨_, rfl, .inr ⟨rfl, by simp⟩⟩
  | x :: l => by
    simp only [runs, above_Below_B1]
    by_cases hc : (x == y) = true
    · rw [if_pos hc]
      have hc' : x = y := by simpa using hc
      exact ⟨_, rfl, .inl ⟨rfl, by rw [hc']; exact List.mem_cons_self⟩⟩
    · rw [if_neg hc]
      have hne : y ≠ x := fun e => hc (by simp [e])
      obtain ⟨r, h1, h2⟩ := below_runs y l
      refine ⟨r, h1, ?_⟩
      rcases h2 with ⟨h3, h4⟩ | ⟨h3, h4⟩
      · exact .inl ⟨h3, List.mem_cons_of_mem _ h4⟩
      · exact .inr ⟨h3, fun hm => (List.mem_cons.1 hm).elim hne h4⟩
/-- Is class `b` at or above class `a`? -/
def bel (p : List GClass) (a b : List UInt8) : Bool := match fi p b with | some j => decide (j ∈ ch p a) | none => false
theorem fnd_mem {p : List GClass} {b : List UInt8} (l : List Nat) : decide (fnd p b ∈ l.map Int.ofNat) = match fi p b with | some j => decide (j ∈ l) | none => false := by
  cases hf : fi p b with
  | none =>
    rw [fnd_none hf]
    simp only [decide_eq_false_iff_not]
    intro h
    obtain ⟨j, _, hj⟩ := List.mem_map.1 h
    have : (0 : Int) ≤ Int.ofNat j := Int.natCast_nonneg j
    omega
  | some j =>
    rw [fnd_some hf]
    simp only [mem_cast]
theorem above_Below_eq {p : List GClass} (hp : p.length ≤ 1000000) (a b : List UInt8) : above_Below p a b = some (bel p a b) := by
  unfold above_Below above_up
  rw [table_Find_eq (by omega)]
  simp only [obs, itR_up_eq (p := p) (by omega)]
  obtain ⟨r, h1, h2⟩ := below_runs (fnd p b) ((upN p (p.length + 1) a).map Int.ofNat)
  rw [h1]
  have hb : bel p a b = decide (fnd p b ∈ (upN p (p.length + 1) a).map Int.ofNat) := by
    rw [fnd_mem]
    unfold bel
    cases fi p b with
    | none => rfl
    | some j => simp only [mem_up]
  rcases h2 with ⟨rfl, h3⟩ | ⟨rfl, h3⟩
  · rw [hb, decide_eq_true h3]; rfl
  · rw [hb, decide_eq_false h3]; rfl

/-! ### Which program's chains go round. -/
def cyc (p : List GClass) (c : GClass) : Bool := decide ((upN p (p.length + 1) c.fName).length = p.length + 1)
def chk (p : List GClass) : GFault := match p.find? (cyc p) with | some c => { fErr := 9, fAt := c.fAt } | none => { fErr := 0, fAt := 0 }
theorem upN_le (p : List GClass) : ∀ (n : Nat) (name : List UInt8), (upN p n name).length ≤ n
  | 0, name => by simp [upN]
  | n + 1, name => by
    simp only [upN]
    cases fi p name with
    | none => simp
    | some i =>
      simp only
      split
      · simp
      · have := upN_le p n (sup p i); simp; omega

theorem ref_Check_L {p : List GClass} (hp : p.length ≤ 1000000) : ∀ (n k : Nat), n + k = p.length + 1 → k ≤ p.length →
    ref14_Check_L1 p n (k : Int) = some (match (p.drop k).find? (cyc p) with | some c => .stop { fErr := 9, fAt := c.fAt } | none => .next ())
  | 0, k, h, hk => by omega
  | n + 1, k, h, hk => by
    simp only [ref14_Check_L1]
    by_cases hlt : k < p.length
    · rw [if_pos (by simpa using hlt), idx_lt hlt, List.drop_eq_getElem_cons hlt]
      simp only [obs, ref_Chain_eq hp]
      obtain ⟨i0, hi0⟩ := fi_some (List.getElem_mem hlt)
      have hne := ch_ne hi0
      have hlen := ch_len p p[k].fName
      obtain ⟨_, _, _, _, _, _, k7, k8⟩ := ch_facts p p[k].fName
      obtain ⟨x, hx⟩ : ∃ x, (ch p p[k].fName).getLast? = some x := by
        cases hl : (ch p p[k].fName).getLast? with
        | none => exact absurd (List.getLast?_eq_none_iff.1 hl) hne
        | some x => exact ⟨x, rfl⟩
      have hpos : 0 < (ch p p[k].fName).length := List.length_pos_iff.2 hne
      have hxm := List.mem_of_getLast? hx
      have hlast : idx ((ch p p[k].fName).map Int.ofNat) (w_i64 ((((ch p p[k].fName).map Int.ofNat).length : Int) - 1)) = some (x : Int) := by
        rw [List.length_map, w64 (by omega) (by omega), show ((ch p p[k].fName).length : Int) - 1 = (((ch p p[k].fName).length - 1 : Nat) : Int) by omega, idx_nat, List.getElem?_map]
        rw [List.getLast?_eq_getElem?] at hx
        rw [hx]; rfl
      rw [hlast]
      have hxl := (k7 x hxm).1
      have hidx : idx p (x : Int) = some p[x] := idx_lt hxl
      have hsx : sup p x = p[x].fSuper := by unfold sup; rw [List.getElem?_eq_getElem hxl]
      simp only [obs, hidx, List.find?_cons]
      have hb : cyc p p[k] = (!(p[x].fSuper == []) && decide (fnd p p[x].fSuper ∈ (ch p p[k].fName).map Int.ofNat)) := by
        unfold cyc
        rw [← k8]
        unfold back
        rw [hx]
        simp only [hsx]
        congr 1
        cases hf : fi p p[x].fSuper with
        | none =>
          rw [fnd_none hf]
          symm
          simp only [decide_eq_false_iff_not]
          intro h
          obtain ⟨j, _, hj⟩ := List.mem_map.1 h
          have : (0 : Int) ≤ Int.ofNat j := Int.natCast_nonneg j
          omega
        | some j =>
          rw [fnd_some hf]
          simp only [mem_cast]
      rw [hb]
      have hcl : ((ch p p[k].fName).map Int.ofNat).length < 9223372036854775806 := by simp; omega
      by_cases hs : (!(p[x].fSuper == [])) = true
      · rw [if_pos hs, hs, ref13_Find_eq (by omega)]
        simp only [obs, has_eq hcl, Bool.true_and]
        by_cases hm : fnd p p[x].fSuper ∈ (ch p p[k].fName).map Int.ofNat
        · rw [if_pos (by simpa using hm), decide_eq_true hm]
        · rw [if_neg (by simpa using hm), decide_eq_false hm, w64_succ hlt (by omega)]
          exact ref_Check_L hp n (k + 1) (by omega) (by omega)
      · rw [if_neg hs]
        have hs2 : (!(p[x].fSuper == [])) = false := by simpa using hs
        simp only [obs]
        rw [hs2, Bool.false_and, w64_succ hlt (by omega), if_neg (by simp)]
        exact ref_Check_L hp n (k + 1) (by omega) (by omega)
    · rw [if_neg (by simpa using hlt), List.drop_eq_nil_of_le (by omega)]
      rfl
theorem ref_Check_eq {p : List GClass} (hp : p.length ≤ 1000000) : ref14_Check p = some (chk p) := by
  unfold ref14_Check
  have h := ref_Check_L hp (p.length + 1) 0 (by omega) (by omega)
  rw [show (((p.length : Int) : Int) - (0)).toNat + 1 = p.length + 1 by omega, show (0 : Int) = ((0 : Nat) : Int) from rfl, h]
  simp only [obs, List.drop_zero]
  unfold chk
  cases p.find? (cyc p) <;> rfl

theorem upN_fi {p : List GClass} {a b : List UInt8} (h : fi p a = fi p b) : ∀ n, upN p n a = upN p n b
  | 0 => rfl
  | n + 1 => by simp only [upN, h]
theorem upN_more {p : List GClass} : ∀ (n : Nat) (name : List UInt8), (upN p n name).length < n → upN p (n + 1) name = upN p n name
  | 0, name, h => by simp at h
  | n + 1, name, h => by
    simp only [upN] at h
    cases hf : fi p name with
    | none => simp only [upN, hf]
    | some i =>
      rw [hf] at h
      simp only at h
      by_cases hs : (sup p i == []) = true
      · simp only [upN, hf, hs, if_true]
      · rw [if_neg hs] at h
        simp only [List.length_cons] at h
        have ih := upN_more (p := p) n (sup p i) (by omega)
        rw [show upN p (n + 1 + 1) name = (if (sup p i == []) = true then [i] else i :: upN p (n + 1) (sup p i)) by simp only [upN, hf], show upN p (n + 1) name = (if (sup p i == []) = true then [i] else i :: upN p n (sup p i)) by simp only [upN, hf], ih]
theorem upN_later {p : List GClass} : ∀ (n : Nat) (name nm : List UInt8) (k : Nat), (upN p n name).length < n → k ∈ upN p n name → fi p nm = some k → fi p name ≠ some k → (upN p n nm).length < (upN p n name).length
  | 0, name, nm, k, h, _, _, _ => by simp at h
  | n + 1, name, nm, k, h, hk, hnm, hne => by
    simp only [upN] at h hk
    cases hf : fi p name with
    | none => rw [hf] at hk; simp at hk
    | some i =>
      have hik : i ≠ k := fun e => hne (by rw [hf, e])
      rw [hf] at h hk
      simp only at h hk
      by_cases hs : (sup p i == []) = true
      · rw [if_pos hs] at hk
        simp at hk; exact absurd hk.symm hik
      · rw [if_neg hs] at h hk
        simp only [List.length_cons] at h
        have hlt : (upN p n (sup p i)).length < n := by omega
        have hk2 : k ∈ upN p n (sup p i) := (List.mem_cons.1 hk).resolve_left (fun e => hik e.symm)
        have e1 : upN p (n + 1) name = i :: upN p n (sup p i) := by simp only [upN, hf, if_neg hs]
        rw [e1]
        simp only [List.length_cons]
        by_cases he : fi p (sup p i) = some k
        · have : upN p n nm = upN p n (sup p i) := upN_fi (by rw [hnm, he]) n
          have hm := upN_more (p := p) n nm (by rw [this]; exact hlt)
          rw [hm, this]; omega
        · have ih := upN_later (p := p) n (sup p i) nm k hlt hk2 hnm he
          have hm := upN_more (p := p) n nm (by omega)
          rw [hm]; omega
theorem antisym {p : List GClass} {a b : List UInt8} (hab : a ≠ b) (h1 : bel p a b = true) (h2 : bel p b a = true) : (chk p).fErr ≠ 0 := by
  unfold bel at h1 h2
  cases hb : fi p b with
  | none => rw [hb] at h1; cases h1
  | some j =>
    cases ha : fi p a with
    | none => rw [ha] at h2; cases h2
    | some i =>
      rw [hb] at h1; rw [ha] at h2
      have hj : j ∈ upN p (p.length + 1) a := mem_up.2 (of_decide_eq_true h1)
      have hi : i ∈ upN p (p.length + 1) b := mem_up.2 (of_decide_eq_true h2)
      obtain ⟨ca, hca, hcan⟩ := fi_spec ha
      obtain ⟨cb, hcb, hcbn⟩ := fi_spec hb
      have hij : i ≠ j := by
        rintro rfl
        rw [hca] at hcb; cases hcb
        exact hab (hcan.symm.trans hcbn)
      have hfull : (upN p (p.length + 1) a).length = p.length + 1 := by
        have hle := upN_le p (p.length + 1) a
        rcases Nat.lt_or_ge (upN p (p.length + 1) a).length (p.length + 1) with hlt | hge
        · have l1 := upN_later _ a b j hlt hj hb (by rw [ha]; intro e; cases e; exact hij rfl)
          have l2 := upN_later _ b a i (by omega) hi ha (by rw [hb]; intro e; cases e; exact hij rfl)
          omega
        · omega
      have hcy : cyc p ca = true := by
        unfold cyc
        rw [hcan]
        exact decide_eq_true hfull
      have hmem : ca ∈ p := List.mem_of_getElem? hca
      unfold chk
      cases hf : p.find? (cyc p) with
      | some c => simp
      | none =>
        rw [List.find?_eq_none] at hf
        exact absurd hcy (hf ca hmem)

theorem bel_trans {p : List GClass} {a b c : List UInt8} (h1 : bel p a b = true) (h2 : bel p b c = true) : bel p a c = true := by
  unfold bel at h1 h2 ⊢
  obtain ⟨_, _, _, _, k5, _⟩ := ch_facts p a
  cases hb : fi p b with
  | none => rw [hb] at h1; cases h1
  | some j =>
    rw [hb] at h1
    have hj : j ∈ ch p a := of_decide_eq_true h1
    cases hc : fi p c with
    | none => rw [hc] at h2; cases h2
    | some k =>
      rw [hc] at h2
      have hk : k ∈ ch p b := of_decide_eq_true h2
      exact decide_eq_true (upN_shut k5 _ b (fun j' hj' => by rw [hb] at hj'; cases hj'; exact hj) k (mem_up.2 hk))

/-! ### Owners, put. -/
theorem bGOwner_eq (a b : GOwner) : bGOwner a b = decide (a = b) := by
  rw [Bool.eq_iff_iff]; cases a; cases b; simp [bGOwner]
theorem bGOwner_refl (a : GOwner) : bGOwner a a = true := by simp [bGOwner]
def putAt (l : List GOwner) (n : Int) : GOwner := match idx l n with | some y => y | none => ⟨8, 0⟩
def putS (a : GOwner) (l : List GOwner) : GOwner := if a.fKind = 3 then putAt l a.fN else if a.fKind = 2 then putAt l 0 else a
theorem owner_Put_eq (a : GOwner) (l : List GOwner) : owner_Put a l = some (putS a l) := by
  have key : ∀ n : Int, (Option.bind (if (decide (n < 0)) = true then some true else some (decide (n ≥ (l.length : Int))) : Option Bool) fun x5 =>
      if x5 = true then some ({ fKind := 8, fN := 0 } : GOwner) else Option.bind (idx l n) fun (y9 : GOwner) => some y9) = some (putAt l n) := by
    intro n
    by_cases h0 : n < 0
    · simp [h0, putAt, idx_neg h0]
    · by_cases h1 : n ≥ (l.length : Int)
      · simp [h0, h1, putAt, idx_ge h1]
      · have := idx_in (l := l) (n := n) (by omega) (by omega)
        simp [h0, h1, putAt, this]
  unfold owner_Put putS
  by_cases h3 : a.fKind = 3
  · simp only [h3, if_true, beq_self_eq_true, Ctl.go]; exact key _
  · by_cases h2 : a.fKind = 2
    · simp [h2, Ctl.go]; simpa using key 0
    · simp [h3, h2, Ctl.go]

/-! ### The owners of a type. -/
/-- How many owners stand behind the class. -/
def cnt3 (n : Int) : Nat := if n ≤ 0 then 0 else if 3 ≤ n then 3 else n.toNat
theorem cnt3_le (n : Int) : cnt3 n ≤ 3 := by unfold cnt3; split; omega; split; omega; omega
theorem cnt3_ite (n : Int) : (if (if 3 < n then 3 else n) > 0 then (if 3 < n then 3 else n) else 0) = ((cnt3 n : Nat) : Int) := by
  unfold cnt3
  by_cases h : n ≤ 0
  · rw [if_neg (show ¬ 3 < n by omega), if_neg (show ¬ n > 0 by omega), if_pos h]; rfl
  · by_cases h3 : 3 ≤ n
    · by_cases h4 : 3 < n
      · simp only [if_pos h4, if_neg h, if_pos h3]; omega
      · simp only [if_neg h4, if_neg h, if_pos h3]; rw [if_pos (by omega)]; omega
    · simp only [if_neg (show ¬ 3 < n by omega), if_neg h, if_neg h3]; rw [if_pos (by omega)]; omega
def own (t : GType) : List GOwner := if t.fKind = 2 then t.fOwn.l.take (cnt3 t.fN + 1) else []
theorem A4_len {α : Type} (x : A4 α) : x.l.length = 4 := rfl
theorem own_len {t : GType} (h : t.fKind = 2) : (own t).length = cnt3 t.fN + 1 := by
  unfold own; rw [if_pos h, List.length_take, A4_len]; have := cnt3_le t.fN; omega
theorem own_le (t : GType) : (own t).length ≤ 4 := by
  unfold own; split
  · rw [List.length_take, A4_len]; omega
  · simp
theorem kind_own_eq (t : GType) : kind_own t = some (t.fOwn.l.take (cnt3 t.fN + 1)) := by
  unfold kind_own
  have := cnt3_le t.fN
  rw [cnt3_ite, w64 (by omega) (by omega), show ((cnt3 t.fN : Nat) : Int) + 1 = ((cnt3 t.fN + 1 : Nat) : Int) by omega]
  unfold cutL
  rw [if_pos ⟨by omega, by omega, by rw [A4_len]; omega⟩]
  simp
theorem kind_Owners_eq (t : GType) : kind_Owners t = some (own t) := by
  unfold kind_Owners own
  by_cases h : t.fKind = 2
  · rw [if_neg (by simp [h]), if_pos h, kind_own_eq, obs]
    unfold slices_Clone_api_Owner
    rw [room_ok (by rw [List.length_take, A4_len]; simp; omega)]
    rfl
  · rw [if_pos (by simpa using h), if_neg h]

/-! ### Can an owner be told? -/
theorem under_of_1_eq (o : GOwner) (l : List Int) (hl : l.length < 9223372036854775806) : under_of_1 o l = some (decide (o.fKind ∈ l)) := by
  unfold under_of_1; rw [contains_eq hl, obs]
theorem cf_owner {l : List GOwner} (hp : l.length ≤ 9223372036854775807) {q : GOwner → Option Bool} {b : GOwner → Bool} (hq : ∀ y, q y = some (b y)) : slices_ContainsFunc_api_Owner l q = some (l.any b) := by
  unfold slices_ContainsFunc_api_Owner slices_IndexFunc_api_Owner
  rw [findL (slices_IndexFunc_api_Owner_L1 l q) (b := b) hp (fun n x => by rw [slices_IndexFunc_api_Owner_L1]; simp only [hq, obs]), obs, find_any, obs, idx_any]
def dimS (l : List GOwner) : Bool := l.any (fun o => decide (o.fKind ∈ [8, 7])) || (l.drop 1).any (fun o => decide (o.fKind ∈ [(5 : Int)]))
theorem under_dim_eq (t : GType) : under_dim t = some (dimS (own t)) := by
  unfold under_dim under_of
  have hl := own_le t
  rw [kind_Owners_eq, obs, obs, cf_owner (by omega) (fun y => under_of_1_eq y [8, 7] (by simp)), obs]
  unfold dimS
  by_cases h : (own t).any (fun o => decide (o.fKind ∈ [8, 7])) = true
  · rw [if_pos h, h]; rfl
  · rw [if_neg h]
    simp only [Bool.not_eq_true] at h
    rw [h, Bool.false_or]
    by_cases h1 : (own t).length > 1
    · rw [if_pos (by simp; omega)]
      have : cutL (own t) 1 (own t).length = some ((own t).drop 1) := by unfold cutL; rw [if_pos ⟨by omega, by omega, by omega⟩]; simp
      rw [this, obs, obs, cf_owner (by simp; omega) (fun y => under_of_1_eq y [5] (by simp)), obs]
    · rw [if_neg (by simp; omega), List.drop_eq_nil_of_le (by omega)]; rfl

/-! ### Owners, raised along a chain. -/
def ari (p : List GClass) (name : List UInt8) : Int := match fi p name with | some i => (match p[i]? with | some c => (c.fParams.length : Int) | none => 0) | none => -1
theorem table_Arity_eq {p : List GClass} (hp : p.length < 9223372036854775806) (name : List UInt8) : table_Arity p name = some (ari p name) := by
  unfold table_Arity ari
  rw [table_Find_eq hp, obs]
  cases hf : fi p name with
  | none => rw [fnd_none hf, if_pos (by simp)]
  | some i =>
    rw [fnd_some hf, if_neg (by simp), idx_lt (fi_lt hf), obs]
    simp only [List.getElem?_eq_getElem (fi_lt hf)]
def abv (p : List GClass) (i : Nat) : List GOwner := match p[i]? with | some c => c.fAbove | none => []
def nextS (p : List GClass) (i : Nat) (l : List GOwner) : List GOwner := l.take 1 ++ (abv p i).map (putS · l)
def rs (p : List GClass) (e : Nat) : List Nat → List GOwner → List GOwner × Bool
  | [], _ => ([], false)
  | i :: r, l => if i = e then (l, true) else rs p e r (nextS p i l)
def aboveOk (p : List GClass) : Prop := ∀ c ∈ p, c.fAbove.length ≤ 20 ∧ c.fParams.length ≤ 20
theorem abv_le {p : List GClass} (h : aboveOk p) (i : Nat) : (abv p i).length ≤ 20 := by
  unfold abv
  cases hc : p[i]? with
  | none => simp
  | some c => exact (h c (List.mem_of_getElem? hc)).1
theorem nextS_len {p : List GClass} (h : aboveOk p) (i : Nat) {l : List GOwner} (hl : 1 ≤ l.length) : 1 ≤ (nextS p i l).length ∧ (nextS p i l).length ≤ 21 := by
  have := abv_le h i
  unfold nextS
  rw [List.length_append, List.length_map, List.length_take]
  omega
theorem rs_none (p : List GClass) (e : Nat) : ∀ (c : List Nat) (l : List GOwner), e ∉ c → rs p e c l = ([], false)
  | [], l, _ => rfl
  | i :: r, l, h => by
    simp only [List.mem_cons, not_or] at h
    simp only [rs]
    rw [if_neg (fun e' => h.1 e'.symm)]
    exact rs_none p e r _ h.2
theorem rs_some {p : List GClass} (h : aboveOk p) (e : Nat) : ∀ (c : List Nat) (l : List GOwner), 1 ≤ l.length → l.length ≤ 21 → e ∈ c → (rs p e c l).2 = true ∧ 1 ≤ (rs p e c l).1.length ∧ (rs p e c l).1.length ≤ 21
  | [], l, _, _, he => by simp at he
  | i :: r, l, h1, h2, he => by
    simp only [rs]
    by_cases hi : i = e
    · rw [if_pos hi]; exact ⟨rfl, h1, h2⟩
    · rw [if_neg hi]
      have := nextS_len h i h1
      exact rs_some h e r _ this.1 this.2 ((List.mem_cons.1 he).resolve_left (fun x => hi x.symm))
theorem raise_L2_eq (s : List GOwner) (cls : GClass) (hc : cls.fAbove.length ≤ 20) (n : Nat) (acc : List GOwner) (ha : acc.length ≤ 1000) (hn : n = cls.fAbove.length) (h1 : 1 ≤ cls.fAbove.length) :
    raise_raise_api_Owner__L2 (fun z1 z2 => owner_Put z1 z2) s cls n acc 1 = some (acc ++ (cls.fAbove.drop 1).map (putS · s)) := by
  have := foldL_at (l := cls.fAbove) (L := raise_raise_api_Owner__L2 (fun z1 z2 => owner_Put z1 z2) s cls) (by omega) (f := fun acc y => Option.bind (owner_Put y s) fun z => Option.bind (room ((acc.length : Int) + ([z].length : Int)) 16) fun _ => some (acc ++ [z])) (fin := some) (fun n acc x => by
    rw [raise_raise_api_Owner__L2]
    by_cases h : decide (x < (cls.fAbove.length : Int)) = true
    · rw [if_pos h, if_pos h]
      cases idx cls.fAbove x with
      | none => rfl
      | some y =>
        rw [obs, obs]
        cases owner_Put y s with
        | none => rfl
        | some z => rw [obs, obs]; cases room ((acc.length : Int) + ([z].length : Int)) 16 <;> rfl
    · rw [if_neg h, if_neg h]) n 1 acc (by omega) h1
  rw [show ((1 : Nat) : Int) = 1 from rfl] at this
  rw [this, foldO_room _ (putS · s) 2000 (fun s' y hs => by
    rw [owner_Put_eq, obs, List.length_singleton, room1 (by omega) (by omega) (by omega), obs]) _ acc (by rw [List.length_drop]; omega)]
  rfl
def rsC (r : List GOwner × Bool) : Ctl (List GOwner × Bool) Unit := if r.2 = true then .stop r else .next ()
theorem raise_L_eq {p : List GClass} (hp : p.length ≤ 1000000) (hA : aboveOk p) (e : Nat) (c : List Nat) (hc : ∀ x ∈ c, x < p.length) (hl : c.length ≤ 1000000) : ∀ (n k : Nat) (s : List GOwner), n + k = c.length + 1 → k ≤ c.length → 1 ≤ s.length → s.length ≤ 21 →
    raise_raise_api_Owner__L1 p (fun z1 z2 => owner_Put z1 z2) (e : Int) (c.map Int.ofNat) n s (k : Int) = some (rsC (rs p e (c.drop k) s))
  | 0, k, s, h, hk, _, _ => by omega
  | n + 1, k, s, h, hk, h1, h2 => by
    rw [raise_raise_api_Owner__L1, List.length_map]
    by_cases hlt : k < c.length
    · have hx := hc _ (List.getElem_mem hlt)
      rw [if_pos (by simpa using hlt), idx_nat, List.getElem?_map, List.getElem?_eq_getElem hlt, Option.map_some, obs, List.drop_eq_getElem_cons hlt]
      simp only [rs]
      by_cases he : c[k] = e
      · rw [if_pos (by simp [he]), if_pos he]; rfl
      · rw [if_neg (by simp; omega), if_neg he]
        have hcut : cutL s 0 1 = some (s.take 1) := by unfold cutL; rw [if_pos ⟨by omega, by omega, by omega⟩]; rfl
        have hidx : idx p (Int.ofNat c[k]) = some p[c[k]] := idx_lt hx
        have habv : abv p c[k] = p[c[k]].fAbove := by unfold abv; rw [List.getElem?_eq_getElem hx]
        have hle := abv_le hA c[k]
        rw [habv] at hle
        rw [hcut, obs, hidx, obs]
        have hb : (if (decide (0 < (p[c[k]].fAbove.length : Int))) = true then
          Option.bind (idx p[c[k]].fAbove 0) fun (y192 : GOwner) =>
          Option.bind (owner_Put y192 s) fun (y198 : GOwner) =>
          Option.bind (room (((s.take 1).length : Int) + ([y198].length : Int)) 16) fun (u200 : Unit) =>
          raise_raise_api_Owner__L2 (fun z1 z2 => owner_Put z1 z2) s p[c[k]] ((((p[c[k]].fAbove.length : Int) : Int) - ((w_i64 (0 + 1)))).toNat + 1) ((s.take 1) ++ [y198]) (w_i64 (0 + 1))
        else
          some (s.take 1) : Option ((List GOwner))) = some (nextS p c[k] s) := by
          unfold nextS
          rw [habv]
          by_cases h0 : 0 < p[c[k]].fAbove.length
          · rw [if_pos (by simpa using h0), show (0 : Int) = ((0 : Nat) : Int) from rfl, idx_lt h0, obs, owner_Put_eq, obs, List.length_singleton, room1 (by rw [List.length_take]; omega) (by omega) (by omega), obs]
            rw [show w_i64 (((0 : Nat) : Int) + 1) = 1 by rw [w64 (by omega) (by omega)]; rfl]
            rw [raise_L2_eq s p[c[k]] hle _ _ (by rw [List.length_append, List.length_take, List.length_singleton]; omega) (by omega) h0]
            congr 1
            rw [List.append_assoc]
            congr 1
            conv => rhs; rw [show p[c[k]].fAbove = p[c[k]].fAbove.drop 0 by simp, List.drop_eq_getElem_cons h0]
            rfl
          · rw [if_neg (by simpa using h0)]
            have : p[c[k]].fAbove = [] := List.length_eq_zero_iff.1 (by omega)
            rw [this]; simp
        rw [hb, obs, w64_succ hlt (by omega)]
        have hn := nextS_len hA c[k] h1
        exact raise_L_eq hp hA e c hc hl n (k + 1) _ (by omega) (by omega) hn.1 hn.2
    · rw [if_neg (by simpa using hlt), List.drop_eq_nil_of_le (by omega)]
      rfl
def raiseS (p : List GClass) (a : List UInt8) (l : List GOwner) (b : List UInt8) : List GOwner × Bool :=
  match fi p b with
  | none => ([], false)
  | some e => if (l.length : Int) = ari p a + 1 ∧ l ≠ [] then rs p e (ch p a) l else ([], false)
theorem ari_range {p : List GClass} (hA : aboveOk p) (a : List UInt8) : -1 ≤ ari p a ∧ ari p a ≤ 20 := by
  unfold ari
  split
  · rename_i i hi
    split
    · rename_i c hc
      have := (hA c (List.mem_of_getElem? hc)).2
      omega
    · omega
  · omega
theorem raise_Raise_eq {p : List GClass} (hp : p.length ≤ 1000000) (hA : aboveOk p) (a : List UInt8) (l : List GOwner) (b : List UInt8) : raise_Raise p a l b = some (raiseS p a l b) := by
  unfold raise_Raise raise_raise_api_Owner_ raiseS
  have har := ari_range hA a
  rw [table_Find_eq (by omega), obs, table_Arity_eq (by omega)]
  cases hf : fi p b with
  | none => rw [fnd_none hf, if_pos (by simp)]; rfl
  | some e =>
    show _ = some (if (l.length : Int) = ari p a + 1 ∧ l ≠ [] then rs p e (ch p a) l else ([], false))
    rw [fnd_some hf, if_neg (by simp), obs, w64 (by omega) (by omega)]
    by_cases h1 : (l.length : Int) = ari p a + 1
    · rw [if_neg (by simpa using h1), obs]
      by_cases h2 : l = []
      · rw [if_pos (by simp [h2]), if_neg (fun h => h.2 h2)]; rfl
      · have hlp : 1 ≤ l.length := List.length_pos_iff.2 h2
        rw [if_neg (by simpa using h2), if_pos ⟨h1, h2⟩]
        unfold slices_Clone_api_Owner
        rw [room_ok (by simp; omega), obs, obs, above_Chain_eq hp, obs]
        have hcl := ch_len p a
        obtain ⟨_, _, _, _, _, _, k7, _⟩ := ch_facts p a
        rw [List.length_map, show ((((ch p a).length : Int) : Int) - (0)).toNat + 1 = (ch p a).length + 1 by omega, show (0 : Int) = ((0 : Nat) : Int) from rfl, raise_L_eq hp hA e (ch p a) (fun x hx => (k7 x hx).1) (by omega) _ 0 l (by omega) (by omega) hlp (by omega), List.drop_zero, obs]
        unfold rsC
        cases hr : rs p e (ch p a) l with
        | mk r t =>
          cases t with
          | true => rfl
          | false =>
            -- nothing is left
            have : ∀ (c : List Nat) (l r : List GOwner), rs p e c l = (r, false) → r = [] := by
              intro c
              induction c with
              | nil => intro l r h; simp [rs] at h; exact h
              | cons i c ih =>
                intro l r h
                simp only [rs] at h
                split at h
                · cases h
                · exact ih _ _ h
            rw [this _ _ _ hr]; rfl
    · rw [if_pos (by simpa using h1), obs, if_pos rfl, if_neg (fun h => h1 h.1)]; rfl

theorem eqOwner_L {a b : List GOwner} (hl : a.length = b.length) (hp : a.length ≤ 1000000) : ∀ (n k : Nat), n + k = a.length + 1 → k ≤ a.length → slices_Equal_api_Owner_L1 a b n (k : Int) = some (if a.drop k = b.drop k then .next () else .stop false)
  | 0, k, h, hk => by omega
  | n + 1, k, h, hk => by
    rw [slices_Equal_api_Owner_L1]
    by_cases hlt : k < a.length
    · rw [if_pos (by simpa using hlt), idx_lt hlt, idx_lt (show k < b.length by omega), obs, obs, bGOwner_eq, List.drop_eq_getElem_cons hlt, List.drop_eq_getElem_cons (show k < b.length by omega)]
      by_cases he : a[k] = b[k]
      · rw [if_neg (by simpa using he), w64_succ hlt (by omega), eqOwner_L hl hp n (k + 1) (by omega) (by omega), he]
        simp only [List.cons.injEq, true_and]
      · rw [if_pos (by simpa using he), if_neg (fun h => he (List.cons.inj h).1)]
    · rw [if_neg (by simpa using hlt), List.drop_eq_nil_of_le (by omega), List.drop_eq_nil_of_le (by omega)]
      rfl
theorem eqOwner_eq {a b : List GOwner} (hp : a.length ≤ 1000000) : slices_Equal_api_Owner a b = some (decide (a = b)) := by
  unfold slices_Equal_api_Owner
  by_cases hl : a.length = b.length
  · rw [if_neg (by simp; omega), show (((a.length : Int) : Int) - (0)).toNat + 1 = a.length + 1 by omega, show (0 : Int) = ((0 : Nat) : Int) from rfl, eqOwner_L hl hp _ 0 (by omega) (by omega), obs, List.drop_zero, List.drop_zero]
    by_cases h : a = b
    · simp [h, Ctl.elim]
    · simp [h, Ctl.elim]
  · rw [if_pos (by simp; omega)]
    simp only [Option.some.injEq]
    symm
    simp only [decide_eq_false_iff_not]
    rintro rfl; exact hl rfl

/-! ### Under. -/
def narrow (o : GOwner) : Bool := decide (o.fKind ∈ [6, 8, 7])
def fitL : List GOwner → List GOwner → Bool
  | x :: l, y :: m => decide (l = m) && (decide (x = y) || (decide (y.fKind = 5) && !narrow x))
  | _, _ => false
def isS (p : List GClass) (a b : GType) : Bool :=
  if a.fKind = 1 then decide (b.fKind = 1)
  else if b.fKind ≠ 2 ∨ dimS (own b) = true then false
  else if a.fKind ≠ 2 then decide (a.fKind = 3)
  else if dimS (own a) = true ∨ bel p a.fClass b.fClass = false then false
  else if (raiseS p a.fClass (own a) b.fClass).2 = true then fitL (raiseS p a.fClass (own a) b.fClass).1 (own b) else false
theorem raiseS_len {p : List GClass} (hA : aboveOk p) {a b : List UInt8} {l : List GOwner} (hl : l.length ≤ 21) (h : (raiseS p a l b).2 = true) : 1 ≤ (raiseS p a l b).1.length ∧ (raiseS p a l b).1.length ≤ 21 := by
  unfold raiseS at h ⊢
  cases he : fi p b with
  | none => rw [he] at h; cases h
  | some e =>
    rw [he] at h
    show 1 ≤ (if (l.length : Int) = ari p a + 1 ∧ l ≠ [] then rs p e (ch p a) l else ([], false)).1.length ∧ _
    have h' : (if (l.length : Int) = ari p a + 1 ∧ l ≠ [] then rs p e (ch p a) l else ([], false)).2 = true := h
    by_cases h1 : (l.length : Int) = ari p a + 1 ∧ l ≠ []
    · rw [if_pos h1] at h'
      rw [if_pos h1]
      have : (match some e with | none => (([] : List GOwner), false) | some e => if (l.length : Int) = ari p a + 1 ∧ l ≠ [] then rs p e (ch p a) l else ([], false)) = rs p e (ch p a) l := by
        show (if (l.length : Int) = ari p a + 1 ∧ l ≠ [] then rs p e (ch p a) l else ([], false)) = _
        rw [if_pos h1]
      rw [this]
      by_cases hm : e ∈ ch p a
      · exact (rs_some hA e _ l (List.length_pos_iff.2 h1.2) hl hm).2
      · rw [rs_none p e _ l hm] at h'; cases h'
    · rw [if_neg h1] at h'; cases h'
theorem own_ne {t : GType} (h : t.fKind = 2) : ∃ x l, own t = x :: l := by
  have := own_len h
  cases ho : own t with
  | nil => rw [ho] at this; simp at this
  | cons x l => exact ⟨x, l, rfl⟩
theorem own_nil {t : GType} (h : t.fKind ≠ 2) : own t = [] := by unfold own; rw [if_neg h]
theorem under_Is_eq {p : List GClass} (hp : p.length ≤ 1000000) (hA : aboveOk p) (a b : GType) : under_Is p a b = some (isS p a b) := by
  unfold under_Is isS
  by_cases ha1 : a.fKind = 1
  · rw [if_pos (by simpa using ha1), if_pos ha1]; rfl
  rw [if_neg (by simpa using ha1), if_neg ha1]
  by_cases hb : b.fKind = 2
  · rw [if_neg (by simpa using hb), under_dim_eq, obs, obs]
    by_cases hd : dimS (own b) = true
    · rw [if_pos hd, if_pos (.inr hd)]
    rw [if_neg hd, if_neg (show ¬ (b.fKind ≠ 2 ∨ dimS (own b) = true) from by simp [hb, hd])]
    by_cases ha : a.fKind = 2
    · rw [if_neg (by simpa using ha), if_neg (show ¬ (a.fKind ≠ 2) from by simpa using ha), under_dim_eq, obs]
      by_cases hda : dimS (own a) = true
      · rw [if_pos hda, obs, if_pos rfl, if_pos (.inl hda)]
      rw [if_neg hda, above_Below_eq hp, obs, obs]
      by_cases hbl : bel p a.fClass b.fClass = true
      · rw [if_neg (by simp [hbl]), if_neg (show ¬ (dimS (own a) = true ∨ bel p a.fClass b.fClass = false) from by simp [hbl, hda]), kind_Owners_eq, obs, raise_Raise_eq hp hA, obs]
        by_cases hr : (raiseS p a.fClass (own a) b.fClass).2 = true
        · rw [if_neg (by simp [hr]), if_pos hr, kind_Owners_eq, obs]
          have hlen := raiseS_len hA (by have := own_le a; omega) hr
          obtain ⟨y, m, hm⟩ := own_ne hb
          generalize raiseS p a.fClass (own a) b.fClass = R at hr hlen
          obtain ⟨R1, R2⟩ := R
          cases R1 with
          | nil => simp at hlen
          | cons x l =>
            rw [hm]
            unfold under_of
            simp only [obs, show idx (y :: m) 0 = some y from rfl, show idx (x :: l) 0 = some x from rfl, under_of_1_eq x [6, 8, 7] (by simp)]
            unfold fitL narrow
            simp only [List.length_cons] at hlen
            by_cases h5 : y.fKind = 5
            · rw [if_pos (by simpa using h5), obs]
              by_cases hn : x.fKind ∈ [(6 : Int), 8, 7]
              · rw [decide_eq_true hn, if_neg (by simp), obs, eqOwner_eq (by simp; omega)]
                simp only [obs, Option.some.injEq]
                rw [Bool.eq_iff_iff]
                simp only [decide_eq_true_eq, List.cons.injEq, Bool.and_eq_true, Bool.or_eq_true, decide_eq_true hn, Bool.not_true, Bool.false_eq_true, or_false, and_false, Bool.and_false]
                exact ⟨fun h => ⟨h.2, h.1⟩, fun h => ⟨h.2, h.1⟩⟩
              · rw [decide_eq_false hn, if_pos (by simp), obs, eqOwner_eq (by simp; omega)]
                simp only [obs, Option.some.injEq]
                rw [Bool.eq_iff_iff]
                simp only [decide_eq_true_eq, List.cons.injEq, Bool.and_eq_true, Bool.or_eq_true, decide_eq_false hn, Bool.not_false, h5, and_true, List.set_cons_zero, Int.toNat_zero, true_and, or_true, true_or]
            · rw [if_neg (by simpa using h5), obs, if_neg (by simp), obs, eqOwner_eq (by simp; omega)]
              simp only [obs, Option.some.injEq]
              rw [Bool.eq_iff_iff]
              simp [h5]
              exact ⟨fun h => ⟨h.2, h.1⟩, fun h => ⟨h.2, h.1⟩⟩
        · rw [if_pos (by simpa using hr), if_neg hr]
      · rw [if_pos (by simpa using hbl), if_pos (by right; simpa using hbl)]
    · rw [if_pos (by simpa using ha), if_pos (show a.fKind ≠ 2 from ha)]; simp [BEq.beq]
  · rw [if_pos (by simpa using hb), obs, if_pos rfl, if_pos (.inl hb)]

theorem great27_eq {p : List GClass} (hp : p.length ≤ 9223372036854775807) : ∃ b, law27_great p = some b ∧ (b = false → p.length ≤ 30 ∧ aboveOk p) := by
  unfold law27_great
  rw [anyL (law27_great_L1 p) (r := true) (b := fun c => decide ((c.fAbove.length : Int) > 20) || decide ((c.fParams.length : Int) > 20)) hp (fun n x => by
    rw [law27_great_L1]
    by_cases h : decide (x < (p.length : Int)) = true
    · rw [if_pos h, if_pos h]
      cases idx p x with
      | none => rfl
      | some y =>
        simp only [obs]
        by_cases h1 : (y.fAbove.length : Int) > 20
        · rw [if_pos (by simpa using h1), obs, if_pos rfl, if_pos (by simp [h1])]
        · rw [if_neg (by simpa using h1), obs]; simp only [decide_eq_false h1, Bool.false_or]
    · rw [if_neg h, if_neg h]), obs]
  by_cases h : (p.any fun c => decide ((c.fAbove.length : Int) > 20) || decide ((c.fParams.length : Int) > 20)) = true
  · rw [if_pos h]; exact ⟨true, rfl, fun h => by cases h⟩
  · rw [if_neg h]
    refine ⟨_, rfl, fun hb => ⟨by simp at hb; omega, fun c hc => ?_⟩⟩
    simp only [List.any_eq_true, not_exists, not_and, Bool.or_eq_true, decide_eq_true_eq, not_or] at h
    have := h c hc
    omega

/-! ### What never fails. -/
def Tot {α : Type} (o : Option α) : Prop := ∃ r, o = some r
theorem tot_some {α : Type} (x : α) : Tot (some x) := ⟨x, rfl⟩
theorem tot_bind {α β : Type} {a : Option α} {f : α → Option β} (h : Tot a) (h2 : ∀ x, a = some x → Tot (f x)) : Tot (Option.bind a f) := by
  obtain ⟨x, rfl⟩ := h
  exact h2 x rfl
theorem tot_ite {α : Type} {b : Bool} {x y : Option α} (h1 : b = true → Tot x) (h2 : b = false → Tot y) : Tot (if b = true then x else y) := by
  cases b with
  | true => exact h1 rfl
  | false => exact h2 rfl
theorem tot_elim {R S α : Type} {r : Ctl R S} {f : R → Option α} {g : S → Option α} (h1 : ∀ v, Tot (f v)) (h2 : ∀ s, Tot (g s)) : Tot (Ctl.elim r f g) := by
  cases r with
  | stop v => exact h1 v
  | next s => exact h2 s
theorem tot_loop1 {ρ : Type} (F : Nat → Int → Option ρ) (len : Nat) (h1 : ∀ (n k : Nat), k < len → Tot (F n ((k + 1 : Nat) : Int)) → Tot (F (n + 1) (k : Int))) (h2 : ∀ (n k : Nat), ¬ k < len → Tot (F (n + 1) (k : Int))) :
    ∀ (n k : Nat), n + k = len + 1 → k ≤ len → Tot (F n (k : Int))
  | 0, k, h, hk => by omega
  | n + 1, k, h, hk => by
    by_cases hlt : k < len
    · exact h1 n k hlt (tot_loop1 F len h1 h2 n (k + 1) (by omega) (by omega))
    · exact h2 n k hlt
theorem tot_loop2 {σ ρ : Type} (F : Nat → σ → Int → Option ρ) (len : Nat) (h1 : ∀ (n k : Nat) (s : σ), k < len → (∀ s', Tot (F n s' ((k + 1 : Nat) : Int))) → Tot (F (n + 1) s (k : Int))) (h2 : ∀ (n k : Nat) (s : σ), ¬ k < len → Tot (F (n + 1) s (k : Int))) :
    ∀ (n k : Nat) (s : σ), n + k = len + 1 → k ≤ len → Tot (F n s (k : Int))
  | 0, k, s, h, hk => by omega
  | n + 1, k, s, h, hk => by
    by_cases hlt : k < len
    · exact h1 n k s hlt (fun s' => tot_loop2 F len h1 h2 n (k + 1) s' (by omega) (by omega))
    · exact h2 n k s hlt
theorem fuel_len (m : Nat) : (((m : Int) : Int) - (0)).toNat + 1 = m + 1 := by omega

/-! ### What never fails, and what it then gives. -/
def TP {α : Type} (Q : α → Prop) (o : Option α) : Prop := ∃ r, o = some r ∧ Q r
theorem tp_some {α : Type} {Q : α → Prop} {x : α} (h : Q x) : TP Q (some x) := ⟨x, rfl, h⟩
theorem tp_bind {α β : Type} {R : α → Prop} {Q : β → Prop} {a : Option α} {f : α → Option β} (h : TP R a) (h2 : ∀ x, R x → TP Q (f x)) : TP Q (Option.bind a f) := by
  obtain ⟨x, rfl, hx⟩ := h
  exact h2 x hx
theorem tp_ite {α : Type} {Q : α → Prop} {b : Bool} {x y : Option α} (h1 : b = true → TP Q x) (h2 : b = false → TP Q y) : TP Q (if b = true then x else y) := by
  cases b with
  | true => exact h1 rfl
  | false => exact h2 rfl
theorem tp_elim {R S α : Type} {Q : α → Prop} {r : Ctl R S} {f : R → Option α} {g : S → Option α} (h1 : ∀ v, TP Q (f v)) (h2 : ∀ s, TP Q (g s)) : TP Q (Ctl.elim r f g) := by
  cases r with
  | stop v => exact h1 v
  | next s => exact h2 s
theorem tp_of {α : Type} {o : Option α} (h : Tot o) : TP (fun _ => True) o := by obtain ⟨r, h⟩ := h; exact ⟨r, h, trivial⟩
theorem tot_of {α : Type} {Q : α → Prop} {o : Option α} (h : TP Q o) : Tot o := by obtain ⟨r, h, _⟩ := h; exact ⟨r, h⟩
theorem tp_loop {σ ρ : Type} {Q : ρ → Prop} (F : Nat → σ → Int → Option ρ) (len : Nat) (I : Nat → σ → Prop) (h1 : ∀ (n k : Nat) (s : σ), k < len → I k s → (∀ s', I (k + 1) s' → TP Q (F n s' ((k + 1 : Nat) : Int))) → TP Q (F (n + 1) s (k : Int))) (h2 : ∀ (n : Nat) (s : σ), I len s → TP Q (F (n + 1) s (len : Int))) :
    ∀ (n k : Nat) (s : σ), n + k = len + 1 → k ≤ len → I k s → TP Q (F n s (k : Int))
  | 0, k, s, h, hk, _ => by omega
  | n + 1, k, s, h, hk, hi => by
    by_cases hlt : k < len
    · exact h1 n k s hlt hi (fun s' hs' => tp_loop F len I h1 h2 n (k + 1) s' (by omega) (by omega) hs')
    · have : k = len := by omega
      subst this
      exact h2 n s hi
theorem lsum_mem {α : Type} {u : α → Nat} {l : List α} {y : α} : y ∈ l → u y ≤ lsum u l := by
  induction l with
  | nil => intro h; simp at h
  | cons x l ih =>
    intro h
    simp only [lsum]
    rcases List.mem_cons.1 h with rfl | h
    · omega
    · have := ih h; omega
theorem len_lsum {α : Type} {u : α → Nat} (h : ∀ y, 1 ≤ u y) : ∀ l : List α, l.length ≤ lsum u l
  | [] => Nat.le_refl _
  | x :: l => by simp only [lsum, List.length_cons]; have := h x; have := len_lsum h l; omega
theorem lsum_le {α : Type} {u v : α → Nat} : ∀ {l : List α}, (∀ y ∈ l, u y ≤ v y) → lsum u l ≤ lsum v l
  | [], _ => Nat.le_refl _
  | x :: l, h => by simp only [lsum]; have := h x (by simp); have := lsum_le (l := l) (fun y hy => h y (by simp [hy])); omega
theorem lsum_drop {α : Type} (u : α → Nat) {l : List α} {k : Nat} (h : k < l.length) : lsum u (l.drop k) = u l[k] + lsum u (l.drop (k + 1)) := by rw [List.drop_eq_getElem_cons h]; rfl

/-! ### What a program counts. -/
theorem u1_str (s : List UInt8) : 1 ≤ List.length s + 1 := by omega
theorem u1_O (x : GOwner) : 1 ≤ uGOwner x := by unfold uGOwner; omega
theorem u1_T (x : GType) : 1 ≤ uGType x := by unfold uGType; omega
theorem u1_V (x : GVar) : 1 ≤ uGVar x := by unfold uGVar; omega
theorem u1_E (x : GExpr) : 1 ≤ uGExpr x := by rw [uGExpr_eq]; omega
theorem u1_S (x : GStmt) : 1 ≤ uGStmt x := by rw [uGStmt_eq]; omega
theorem u1_M (x : GMethod) : 1 ≤ uGMethod x := by unfold uGMethod; omega
theorem u1_C (x : GClass) : 1 ≤ uGClass x := by unfold uGClass; omega
theorem uT_p (x : GType) : x.fClass.length < uGType x := by unfold uGType; omega
theorem uV_p (x : GVar) : x.fName.length < uGVar x ∧ uGType x.fType < uGVar x := by unfold uGVar; omega
theorem uE_p (x : GExpr) : x.fName.length < uGExpr x ∧ lsum uGExpr x.fKids < uGExpr x := by rw [uGExpr_eq]; omega
theorem uS_p (x : GStmt) : x.fX.length < uGStmt x ∧ x.fY.length < uGStmt x ∧ x.fName.length < uGStmt x ∧ uGType x.fType < uGStmt x ∧ uGExpr x.fE < uGStmt x ∧ lsum uGExpr x.fArgs < uGStmt x ∧ 1 + lsum uGStmt x.fBody + lsum uGStmt x.fElse < uGStmt x := by rw [uGStmt_eq]; omega
theorem uM_p (x : GMethod) : x.fName.length < uGMethod x ∧ uGType x.fRet < uGMethod x ∧ 1 + lsum uGVar x.fParams + lsum uGVar x.fLocals + lsum uGStmt x.fBody < uGMethod x := by unfold uGMethod; omega
theorem uC_p (x : GClass) : x.fName.length < uGClass x ∧ lsum (fun s => List.length s + 1) x.fParams < uGClass x ∧ x.fSuper.length < uGClass x ∧ lsum uGOwner x.fAbove < uGClass x ∧ lsum uGVar x.fFields + lsum uGMethod x.fMethods < uGClass x := by unfold uGClass; omega
theorem mLE_sum : ∀ l : List GExpr, mLGExpr l = lsum mGExpr l
  | [] => by simp only [mLGExpr, lsum]
  | x :: l => by simp only [mLGExpr, lsum, mLE_sum l]
theorem mLS_sum : ∀ l : List GStmt, mLGStmt l = lsum mGStmt l
  | [] => by simp only [mLGStmt, lsum]
  | x :: l => by simp only [mLGStmt, lsum, mLS_sum l]
theorem mE_eq (e : GExpr) : mGExpr e = 1 + lsum mGExpr e.fKids := by rw [← mLE_sum]; cases e; simp only [mGExpr]
theorem mS_eq (e : GStmt) : mGStmt e = 1 + mGExpr e.fE + lsum mGExpr e.fArgs + lsum mGStmt e.fBody + lsum mGStmt e.fElse := by rw [← mLS_sum, ← mLS_sum, ← mLE_sum]; cases e; simp only [mGStmt]
theorem mE_u : ∀ (n : Nat) (e : GExpr), mGExpr e ≤ n → mGExpr e ≤ uGExpr e
  | 0, e, h => by rw [mE_eq] at h; omega
  | n + 1, e, h => by
    rw [mE_eq] at h
    rw [mE_eq]
    have := (uE_p e).2
    have := lsum_le (u := mGExpr) (v := uGExpr) (l := e.fKids) (fun y hy => mE_u n y (by have := lsum_mem (u := mGExpr) hy; omega))
    omega
theorem mE_le (e : GExpr) : mGExpr e ≤ uGExpr e := mE_u _ e (Nat.le_refl _)
theorem mS_u : ∀ (n : Nat) (e : GStmt), mGStmt e ≤ n → mGStmt e ≤ uGStmt e
  | 0, e, h => by rw [mS_eq] at h; omega
  | n + 1, e, h => by
    rw [mS_eq] at h
    rw [mS_eq, uGStmt_eq]
    have h1 := lsum_le (u := mGExpr) (v := uGExpr) (l := e.fArgs) (fun y _ => mE_le y)
    have h2 := lsum_le (u := mGStmt) (v := uGStmt) (l := e.fBody) (fun y hy => mS_u n y (by have := lsum_mem (u := mGStmt) hy; omega))
    have h3 := lsum_le (u := mGStmt) (v := uGStmt) (l := e.fElse) (fun y hy => mS_u n y (by have := lsum_mem (u := mGStmt) hy; omega))
    have h4 := mE_le e.fE
    omega
theorem mS_le (e : GStmt) : mGStmt e ≤ uGStmt e := mS_u _ e (Nat.le_refl _)

/-! ### The document's words, types, expressions, statements: never a failure. -/
theorem tot_Letter (b : Int) : Tot (ref02_Letter b) := by
  unfold ref02_Letter
  repeat (first | exact tot_some _ | refine tot_ite (fun _ => ?_) fun _ => ?_)
theorem tot_Digit (b : Int) : Tot (ref02_Digit b) := by
  unfold ref02_Digit
  repeat (first | exact tot_some _ | refine tot_ite (fun _ => ?_) fun _ => ?_)
theorem tot_Find (s : List UInt8) : Tot (ref02_Find s) := by
  unfold ref02_Find
  refine tot_bind (show Tot ref02_Words from tot_some _) fun W hW => ?_
  have hl : W.length ≤ 9223372036854775807 := by unfold ref02_Words at hW; cases hW; simp
  rw [fuel_len]
  refine tot_bind ?_ fun _ _ => tot_elim (fun _ => tot_some _) fun _ => tot_some _
  refine tot_loop1 (ref02_Find_L1 s W) W.length (fun m k hlt ih => ?_) (fun m k hlt => ?_) _ 0 (by omega) (by omega)
  · rw [ref02_Find_L1, if_pos (by simpa using hlt), idx_lt hlt, w64_succ hlt hl, obs]
    exact tot_ite (fun _ => tot_some _) fun _ => ih
  · rw [ref02_Find_L1, if_neg (by simpa using hlt)]; exact tot_some _
theorem tot_Name {s : List UInt8} (h : s.length ≤ 9223372036854775807) : Tot (ref02_Name s) := by
  unfold ref02_Name
  rw [fuel_len]
  refine tot_bind (tot_ite (fun _ => tot_some _) fun h1 => tot_ite (fun _ => tot_some _) fun _ => ?_) fun _ _ => tot_ite (fun _ => tot_some _) fun _ => tot_bind ?_ fun _ _ => tot_elim (fun _ => tot_some _) fun _ => tot_some _
  · have h0 : 0 < s.length := by simp at h1; omega
    rw [show (0 : Int) = ((0 : Nat) : Int) from rfl, idx_lt h0, obs]
    exact tot_bind (tot_Letter _) fun _ _ => tot_ite (fun _ => tot_some _) fun _ => tot_bind (tot_Find _) fun _ _ => tot_some _
  · refine tot_loop1 (ref02_Name_L1 s) s.length (fun m k hlt ih => ?_) (fun m k hlt => ?_) _ 0 (by omega) (by omega)
    · rw [ref02_Name_L1, if_pos (by simpa using hlt), idx_lt hlt, w64_succ hlt h]
      simp only [obs]
      exact tot_bind (tot_bind (tot_Letter _) fun _ _ => tot_ite (fun _ => tot_bind (tot_Digit _) fun _ _ => tot_some _) fun _ => tot_some _) fun _ _ => tot_ite (fun _ => tot_some _) fun _ => ih
    · rw [ref02_Name_L1, if_neg (by simpa using hlt)]; exact tot_some _
theorem tot_ORight (o : GOwner) (n : Int) : Tot (ref04_Right o n) := by
  unfold ref04_Right
  repeat (first | exact tot_some _ | refine tot_ite (fun _ => ?_) fun _ => ?_)
theorem tot_TRight {t : GType} (n : Int) (h : t.fClass.length ≤ 9223372036854775807) : Tot (ref05_Right t n) := by
  unfold ref05_Right
  rw [show (((4 : Int) : Int) - (0)).toNat + 1 = t.fOwn.l.length + 1 from rfl]
  refine tot_bind (tot_ite (fun _ => tot_some _) fun _ => tot_some _) fun _ _ => tot_ite (fun _ => tot_some _) fun _ => tot_bind ?_ fun _ _ => tot_ite (fun _ => tot_some _) fun _ => tot_bind ?_ fun _ _ => tot_elim (fun _ => tot_some _) fun _ => tot_some _
  · exact tot_ite (fun _ => tot_some _) fun _ => tot_bind (tot_Name h) fun _ _ => tot_ite (fun _ => tot_some _) fun _ => tot_ite (fun _ => tot_some _) fun _ => tot_some _
  · refine tot_loop1 (ref05_Right_L1 t n) t.fOwn.l.length (fun m k hlt ih => ?_) (fun m k hlt => ?_) _ 0 (by omega) (by omega)
    · have h4 : t.fOwn.l.length = 4 := rfl
      rw [ref05_Right_L1, if_pos (by simp; omega), idx_lt hlt, w64_succ hlt (by omega), obs]
      refine tot_bind ?_ fun _ _ => tot_ite (fun _ => tot_some _) fun _ => ih
      repeat (first | exact tot_some _ | exact tot_ORight _ _ | refine tot_ite (fun _ => ?_) fun _ => ?_ | refine tot_bind ?_ fun _ _ => ?_)
    · have h4 : t.fOwn.l.length = 4 := rfl
      rw [ref05_Right_L1, if_neg (by simp; omega)]; exact tot_some _
theorem tot_ESame : ∀ (n : Nat) (a b : GExpr), mGExpr a < n → n ≤ 9223372036854775807 → Tot (ref06_Same n a b)
  | 0, a, b, h, _ => by omega
  | n + 1, a, b, h, hn => by
    rw [mE_eq] at h
    have hl := len_lsum (u := mGExpr) (fun y => by rw [mE_eq]; omega) a.fKids
    simp only [ref06_Same, fuel_len]
    by_cases hk : ((a.fKids.length : Int) != (b.fKids.length : Int)) = true
    · refine tot_bind (a := _) (f := _) ?_ fun x hx => tot_ite (fun _ => tot_some _) fun hf => ?_
      · exact tot_ite (fun _ => tot_some _) fun _ => tot_ite (fun _ => tot_some _) fun _ => tot_ite (fun _ => tot_some _) fun _ => tot_some _
      · exfalso
        subst hf
        rw [hk] at hx
        revert hx
        split
        · intro h; cases h
        · split
          · intro h; cases h
          · split
            · intro h; cases h
            · intro h; cases h
    · have hlen : a.fKids.length = b.fKids.length := by simp at hk; omega
      refine tot_bind (tot_ite (fun _ => tot_some _) fun _ => tot_ite (fun _ => tot_some _) fun _ => tot_ite (fun _ => tot_some _) fun _ => tot_some _) fun _ _ => tot_ite (fun _ => tot_some _) fun _ => tot_bind ?_ fun _ _ => tot_elim (fun _ => tot_some _) fun _ => tot_some _
      refine tot_loop1 (ref06_Same_L1 a b (ref06_Same n)) a.fKids.length (fun m k hlt ih => ?_) (fun m k hlt => ?_) _ 0 (by omega) (by omega)
      · rw [ref06_Same_L1, if_pos (by simpa using hlt), idx_lt hlt, idx_lt (show k < b.fKids.length by omega), w64_succ hlt (by omega), obs, obs]
        have := lsum_mem (u := mGExpr) (List.getElem_mem hlt)
        exact tot_bind (tot_ESame n _ _ (by omega) (by omega)) fun _ _ => tot_ite (fun _ => tot_some _) fun _ => ih
      · rw [ref06_Same_L1, if_neg (by simpa using hlt)]; exact tot_some _
theorem tot_kids6 (k : Int) : Tot (ref06_kids k) := by
  unfold ref06_kids
  repeat (first | exact tot_some _ | refine tot_ite (fun _ => ?_) fun _ => ?_ | refine tot_bind ?_ fun _ _ => ?_)
theorem tot_Eform : ∀ (n : Nat) (e : GExpr), mGExpr e < n → uGExpr e ≤ 1048576 → Tot (ref06_form n e)
  | 0, e, h, _ => by omega
  | n + 1, e, h, hu => by
    rw [mE_eq] at h
    have hp := uE_p e
    have hl := len_lsum u1_E e.fKids
    have hN : Tot (ref02_Name e.fName) := tot_Name (by omega)
    simp only [ref06_form, fuel_len]
    refine tot_bind ?_ fun _ _ => tot_ite (fun _ => tot_some _) fun _ => tot_bind ?_ fun _ _ => tot_elim (fun _ => tot_some _) fun _ => tot_some _
    · repeat (first | exact tot_some _ | exact hN | exact tot_kids6 _ | refine tot_ite (fun _ => ?_) fun _ => ?_ | refine tot_bind ?_ fun _ _ => ?_)
    · refine tot_loop1 (ref06_form_L1 e (ref06_form n)) e.fKids.length (fun m k hlt ih => ?_) (fun m k hlt => ?_) _ 0 (by omega) (by omega)
      · rw [ref06_form_L1, if_pos (by simpa using hlt), idx_lt hlt, w64_succ hlt (by omega), obs, obs]
        have h1 := lsum_mem (u := mGExpr) (List.getElem_mem hlt)
        have h2 := lsum_mem (u := uGExpr) (List.getElem_mem hlt)
        refine tot_bind (tot_bind (tot_Eform n _ (by omega) (by omega)) fun _ _ => ?_) fun _ _ => tot_ite (fun _ => tot_some _) fun _ => ih
        repeat (first | exact tot_some _ | refine tot_ite (fun _ => ?_) fun _ => ?_)
      · rw [ref06_form_L1, if_neg (by simpa using hlt)]; exact tot_some _
theorem tot_EDeep : ∀ (n : Nat) (e : GExpr), mGExpr e < n → uGExpr e ≤ 1048576 → Tot (ref06_Deep n e)
  | 0, e, h, _ => by omega
  | n + 1, e, h, hu => by
    rw [mE_eq] at h
    have hp := uE_p e
    have hl := len_lsum u1_E e.fKids
    simp only [ref06_Deep, fuel_len]
    refine tot_bind ?_ fun _ _ => tot_some _
    refine tot_loop2 (ref06_Deep_L1 e (ref06_Deep n)) e.fKids.length (fun m k s hlt ih => ?_) (fun m k s hlt => ?_) _ 0 _ (by omega) (by omega)
    · rw [ref06_Deep_L1, if_pos (by simpa using hlt), idx_lt hlt, w64_succ hlt (by omega), obs]
      have h1 := lsum_mem (u := mGExpr) (List.getElem_mem hlt)
      have h2 := lsum_mem (u := uGExpr) (List.getElem_mem hlt)
      exact tot_bind (tot_EDeep n _ (by omega) (by omega)) fun _ _ => ih _
    · rw [ref06_Deep_L1, if_neg (by simpa using hlt)]; exact tot_some _
theorem tot_ERight {e : GExpr} (hu : uGExpr e ≤ 1048576) : Tot (ref06_Right e) := by
  unfold ref06_Right
  exact tot_bind (tot_Eform _ _ (by omega) hu) fun _ _ => tot_ite (fun _ => tot_bind (tot_EDeep _ _ (by omega) hu) fun _ _ => tot_some _) fun _ => tot_some _
theorem tp_Blank (s : GStmt) : TP (fun y => mGExpr y.fE ≤ mGExpr s.fE + 1) (ref08_Blank s) := by
  unfold ref08_Blank
  have b : ∀ {b : Option Bool} (_ : Tot b), TP (fun _ => True) b := fun h => tp_of h
  have e1 : mGExpr ({ fKind := 0, fNum := 0, fName := [], fKids := [] } : GExpr) = 1 := by rw [mE_eq]; rfl
  refine tp_bind (R := fun y : GStmt => mGExpr y.fE ≤ mGExpr s.fE + 1) (tp_bind (b ?_) fun x _ => tp_ite (fun _ => tp_some (by simp)) fun _ => tp_some (by simp)) fun y1 h1 => ?_
  · repeat (first | exact tot_some _ | refine tot_ite (fun _ => ?_) fun _ => ?_)
  refine tp_bind (R := fun y : GStmt => mGExpr y.fE ≤ mGExpr s.fE + 1) (tp_bind (b ?_) fun x _ => tp_ite (fun _ => tp_some h1) fun _ => tp_some h1) fun y2 h2 => ?_
  · repeat (first | exact tot_some _ | refine tot_ite (fun _ => ?_) fun _ => ?_)
  refine tp_bind (R := fun y : GStmt => mGExpr y.fE ≤ mGExpr s.fE + 1) (tp_bind (b ?_) fun x _ => tp_ite (fun _ => tp_some h2) fun _ => tp_some h2) fun y3 h3 => ?_
  · repeat (first | exact tot_some _ | refine tot_ite (fun _ => ?_) fun _ => ?_)
  refine tp_bind (R := fun y : GStmt => mGExpr y.fE ≤ mGExpr s.fE + 1) (tp_bind (b ?_) fun x _ => tp_ite (fun _ => tp_some h3) fun _ => tp_some h3) fun y4 h4 => ?_
  · repeat (first | exact tot_some _ | refine tot_ite (fun _ => ?_) fun _ => ?_)
  refine tp_bind (R := fun y : GStmt => mGExpr y.fE ≤ mGExpr s.fE + 1) (tp_bind (b ?_) fun x _ => tp_ite (fun _ => tp_some (by show mGExpr ({ fKind := 0, fNum := 0, fName := [], fKids := [] } : GExpr) ≤ _; omega)) fun _ => tp_some h4) fun y5 h5 => ?_
  · repeat (first | exact tot_some _ | refine tot_ite (fun _ => ?_) fun _ => ?_)
  refine tp_bind (R := fun y : GStmt => mGExpr y.fE ≤ mGExpr s.fE + 1) (tp_ite (fun _ => tp_some h5) fun _ => tp_some h5) fun y6 h6 => ?_
  refine tp_bind (R := fun y : GStmt => mGExpr y.fE ≤ mGExpr s.fE + 1) (tp_bind (b ?_) fun x _ => tp_ite (fun _ => tp_some h6) fun _ => tp_some h6) fun y7 h7 => ?_
  · repeat (first | exact tot_some _ | refine tot_ite (fun _ => ?_) fun _ => ?_)
  exact tp_ite (fun _ => tp_some h7) fun _ => tp_some h7
theorem tot_only {s : GStmt} (hu : uGStmt s ≤ 1048576) : Tot (ref08_only s) := by
  unfold ref08_only
  have hp := uS_p s
  have hm := mE_le s.fE
  have e1 : mGExpr ({ fKind := 0, fNum := 0, fName := [], fKids := [] } : GExpr) = 1 := by rw [mE_eq]; rfl
  refine tot_of (tp_bind (tp_Blank s) fun y hy => tp_of ?_)
  have hS : Tot (ref06_Same (mGExpr y.fE + mGExpr ({ fKind := 0, fNum := 0, fName := [], fKids := [] } : GExpr) + 1) y.fE ({ fKind := 0, fNum := 0, fName := [], fKids := [] } : GExpr)) := tot_ESame _ _ _ (by omega) (by omega)
  repeat (first | exact tot_some _ | exact hS | refine tot_ite (fun _ => ?_) fun _ => ?_ | refine tot_bind ?_ fun _ _ => ?_)
theorem tot_Snames {s : GStmt} (n : Int) (hu : uGStmt s ≤ 1048576) : Tot (ref08_names s n) := by
  unfold ref08_names
  have hp := uS_p s
  have ht := uT_p s.fType
  have h1 : Tot (ref02_Name s.fX) := tot_Name (by omega)
  have h2 : Tot (ref02_Name s.fY) := tot_Name (by omega)
  have h3 : Tot (ref02_Name s.fName) := tot_Name (by omega)
  have h4 : Tot (ref05_Right s.fType n) := tot_TRight _ (by omega)
  repeat (first | exact tot_some _ | exact h1 | exact h2 | exact h3 | exact h4 | refine tot_ite (fun _ => ?_) fun _ => ?_ | refine tot_bind ?_ fun _ _ => ?_)
theorem tot_tells {s : GStmt} (hu : uGStmt s ≤ 1048576) : Tot (ref08_tells s) := by
  unfold ref08_tells
  rw [fuel_len]
  have hp := uS_p s
  have hm := mE_le s.fE
  have hl := len_lsum u1_E s.fArgs
  have e1 : mGExpr ({ fKind := 0, fNum := 0, fName := [], fKids := [] } : GExpr) = 1 := by rw [mE_eq]; rfl
  have hS : Tot (ref06_Same (mGExpr s.fE + mGExpr ({ fKind := 0, fNum := 0, fName := [], fKids := [] } : GExpr) + 1) s.fE ({ fKind := 0, fNum := 0, fName := [], fKids := [] } : GExpr)) := tot_ESame _ _ _ (by omega) (by omega)
  have hR : Tot (ref06_Right s.fE) := tot_ERight (by omega)
  have hL : Tot (ref08_tells_L1 s (s.fArgs.length + 1) 0) := by
    refine tot_loop1 (ref08_tells_L1 s) s.fArgs.length (fun m k hlt ih => ?_) (fun m k hlt => ?_) _ 0 (by omega) (by omega)
    · rw [ref08_tells_L1, if_pos (by simpa using hlt), idx_lt hlt, w64_succ hlt (by omega), obs]
      have h2 := lsum_mem (u := uGExpr) (List.getElem_mem hlt)
      exact tot_bind (tot_ERight (by omega)) fun _ _ => tot_ite (fun _ => tot_some _) fun _ => ih
    · rw [ref08_tells_L1, if_neg (by simpa using hlt)]; exact tot_some _
  repeat (first | exact tot_some _ | exact hS | exact hR | exact hL | refine tot_ite (fun _ => ?_) fun _ => ?_ | refine tot_elim (fun _ => ?_) fun _ => ?_ | refine tot_bind ?_ fun _ _ => ?_)
theorem tot_Sform : ∀ (n : Nat) (s : GStmt) (p : Int), mGStmt s < n → uGStmt s ≤ 1048576 → Tot (ref08_form n s p)
  | 0, s, p, h, _ => by omega
  | n + 1, s, p, h, hu => by
    rw [mS_eq] at h
    have hp := uS_p s
    have hl1 := len_lsum u1_S s.fBody
    have hl2 := len_lsum u1_S s.fElse
    simp only [ref08_form, fuel_len]
    have hL1 : Tot (ref08_form_L1 s p (ref08_form n) (s.fBody.length + 1) 0) := by
      refine tot_loop1 (ref08_form_L1 s p (ref08_form n)) s.fBody.length (fun m k hlt ih => ?_) (fun m k hlt => ?_) _ 0 (by omega) (by omega)
      · rw [ref08_form_L1, if_pos (by simpa using hlt), idx_lt hlt, w64_succ hlt (by omega), obs]
        have h1 := lsum_mem (u := mGStmt) (List.getElem_mem hlt)
        have h2 := lsum_mem (u := uGStmt) (List.getElem_mem hlt)
        exact tot_bind (tot_Sform n _ _ (by omega) (by omega)) fun _ _ => tot_ite (fun _ => tot_some _) fun _ => ih
      · rw [ref08_form_L1, if_neg (by simpa using hlt)]; exact tot_some _
    have hL2 : Tot (ref08_form_L2 s p (ref08_form n) (s.fElse.length + 1) 0) := by
      refine tot_loop1 (ref08_form_L2 s p (ref08_form n)) s.fElse.length (fun m k hlt ih => ?_) (fun m k hlt => ?_) _ 0 (by omega) (by omega)
      · rw [ref08_form_L2, if_pos (by simpa using hlt), idx_lt hlt, w64_succ hlt (by omega), obs]
        have h1 := lsum_mem (u := mGStmt) (List.getElem_mem hlt)
        have h2 := lsum_mem (u := uGStmt) (List.getElem_mem hlt)
        exact tot_bind (tot_Sform n _ _ (by omega) (by omega)) fun _ _ => tot_ite (fun _ => tot_some _) fun _ => ih
      · rw [ref08_form_L2, if_neg (by simpa using hlt)]; exact tot_some _
    have h1 := tot_only hu
    have h2 := tot_Snames p hu
    have h3 := tot_tells hu
    repeat (first | exact tot_some _ | exact hL1 | exact hL2 | exact h1 | exact h2 | exact h3 | refine tot_ite (fun _ => ?_) fun _ => ?_ | refine tot_elim (fun _ => ?_) fun _ => ?_ | refine tot_bind ?_ fun _ _ => ?_)
theorem tot_SDeep : ∀ (n : Nat) (s : GStmt), mGStmt s < n → uGStmt s ≤ 1048576 → Tot (ref08_Deep n s)
  | 0, s, h, _ => by omega
  | n + 1, s, h, hu => by
    rw [mS_eq] at h
    have hp := uS_p s
    have hl1 := len_lsum u1_S s.fBody
    have hl2 := len_lsum u1_S s.fElse
    simp only [ref08_Deep, fuel_len]
    refine tot_bind ?_ fun _ _ => tot_bind ?_ fun _ _ => tot_some _
    · refine tot_loop2 (ref08_Deep_L1 s (ref08_Deep n)) s.fBody.length (fun m k x hlt ih => ?_) (fun m k x hlt => ?_) _ 0 _ (by omega) (by omega)
      · rw [ref08_Deep_L1, if_pos (by simpa using hlt), idx_lt hlt, w64_succ hlt (by omega), obs]
        have h1 := lsum_mem (u := mGStmt) (List.getElem_mem hlt)
        have h2 := lsum_mem (u := uGStmt) (List.getElem_mem hlt)
        exact tot_bind (tot_SDeep n _ (by omega) (by omega)) fun _ _ => ih _
      · rw [ref08_Deep_L1, if_neg (by simpa using hlt)]; exact tot_some _
    · refine tot_loop2 (ref08_Deep_L2 s (ref08_Deep n)) s.fElse.length (fun m k x hlt ih => ?_) (fun m k x hlt => ?_) _ 0 _ (by omega) (by omega)
      · rw [ref08_Deep_L2, if_pos (by simpa using hlt), idx_lt hlt, w64_succ hlt (by omega), obs]
        have h1 := lsum_mem (u := mGStmt) (List.getElem_mem hlt)
        have h2 := lsum_mem (u := uGStmt) (List.getElem_mem hlt)
        exact tot_bind (tot_SDeep n _ (by omega) (by omega)) fun _ _ => ih _
      · rw [ref08_Deep_L2, if_neg (by simpa using hlt)]; exact tot_some _
theorem tot_SRight {s : GStmt} (p : Int) (hu : uGStmt s ≤ 1048576) : Tot (ref08_Right s p) := by
  unfold ref08_Right
  exact tot_bind (tot_Sform _ _ _ (by omega) hu) fun _ _ => tot_ite (fun _ => tot_bind (tot_SDeep _ _ (by omega) hu) fun _ _ => tot_some _) fun _ => tot_some _
theorem tot_written {t : GType} (p : Int) (hu : uGType t ≤ 1048576) : Tot (ref10_written t p) := by
  unfold ref10_written
  have := uT_p t
  have h1 : Tot (ref05_Right t p) := tot_TRight _ (by omega)
  repeat (first | exact tot_some _ | exact h1 | refine tot_ite (fun _ => ?_) fun _ => ?_ | refine tot_bind ?_ fun _ _ => ?_)
theorem tot_vars {l : List GVar} (m p : Int) (hu : lsum uGVar l ≤ 1048576) : Tot (ref10_vars l m p) := by
  unfold ref10_vars
  rw [fuel_len]
  have hl := len_lsum u1_V l
  refine tot_bind ?_ fun _ _ => tot_elim (fun _ => tot_some _) fun _ => tot_some _
  refine tot_loop1 (ref10_vars_L1 l p) l.length (fun m k hlt ih => ?_) (fun m k hlt => ?_) _ 0 (by omega) (by omega)
  · rw [ref10_vars_L1, if_pos (by simpa using hlt), idx_lt hlt, w64_succ hlt (by omega), obs, obs, obs]
    have h2 := lsum_mem (u := uGVar) (List.getElem_mem hlt)
    have h3 := uV_p l[k]
    exact tot_bind (tot_bind (tot_Name (by omega)) fun _ _ => tot_ite (fun _ => tot_some _) fun _ => tot_ite (fun _ => tot_some _) fun _ => tot_bind (tot_written _ (by omega)) fun _ _ => tot_some _) fun _ _ => tot_ite (fun _ => tot_some _) fun _ => ih
  · rw [ref10_vars_L1, if_neg (by simpa using hlt)]; exact tot_some _
theorem tot_open : ∀ (n : Nat) (l : List GStmt) (p : Int), mLGStmt l < n → lsum uGStmt l ≤ 1048576 → Tot (ref10_open n l p)
  | 0, l, p, h, _ => by omega
  | n + 1, l, p, h, hu => by
    have hl := len_lsum u1_S l
    rw [mLS_sum] at h
    simp only [ref10_open, fuel_len]
    refine tot_bind ?_ fun _ _ => tot_elim (fun _ => tot_some _) fun _ => tot_some _
    refine tot_loop1 (ref10_open_L1 l p (ref10_open n)) l.length (fun m k hlt ih => ?_) (fun m k hlt => ?_) _ 0 (by omega) (by omega)
    · rw [ref10_open_L1, if_pos (by simpa using hlt), idx_lt hlt, w64_succ hlt (by omega)]
      simp only [obs]
      have h1 := lsum_mem (u := mGStmt) (List.getElem_mem hlt)
      have h2 := lsum_mem (u := uGStmt) (List.getElem_mem hlt)
      have h3 := uS_p l[k]
      rw [mS_eq] at h1
      have o1 : Tot (ref10_open n l[k].fBody p) := tot_open n _ _ (by rw [mLS_sum]; omega) (by omega)
      have o2 : Tot (ref10_open n l[k].fElse p) := tot_open n _ _ (by rw [mLS_sum]; omega) (by omega)
      have o3 : Tot (ref10_written l[k].fType p) := tot_written _ (by omega)
      refine tot_bind ?_ fun _ _ => tot_ite (fun _ => tot_some _) fun _ => ih
      repeat (first | exact tot_some _ | exact o1 | exact o2 | exact o3 | refine tot_ite (fun _ => ?_) fun _ => ?_ | refine tot_bind ?_ fun _ _ => ?_)
    · rw [ref10_open_L1, if_neg (by simpa using hlt)]; exact tot_some _
theorem tot_method10 {m : GMethod} (p : Int) (hu : uGMethod m ≤ 1048576) : Tot (ref10_method m p) := by
  unfold ref10_method
  rw [fuel_len]
  have hp := uM_p m
  have hl := len_lsum u1_S m.fBody
  have hL : Tot (ref10_method_L1 m p (m.fBody.length + 1) 0) := by
    refine tot_loop1 (ref10_method_L1 m p) m.fBody.length (fun n k hlt ih => ?_) (fun n k hlt => ?_) _ 0 (by omega) (by omega)
    · rw [ref10_method_L1, if_pos (by simpa using hlt), idx_lt hlt, w64_succ hlt (by omega), obs]
      have h2 := lsum_mem (u := uGStmt) (List.getElem_mem hlt)
      exact tot_bind (tot_SRight _ (by omega)) fun _ _ => tot_ite (fun _ => tot_some _) fun _ => ih
    · rw [ref10_method_L1, if_neg (by simpa using hlt)]; exact tot_some _
  have h1 : Tot (ref02_Name m.fName) := tot_Name (by omega)
  have h2 : Tot (ref10_written m.fRet p) := tot_written _ (by omega)
  have h3 : Tot (ref10_vars m.fParams 5 p) := tot_vars _ _ (by omega)
  have h4 : Tot (ref10_vars m.fLocals 12 p) := tot_vars _ _ (by omega)
  have h5 : Tot (ref10_open (mLGStmt m.fBody + 1) m.fBody p) := tot_open _ _ _ (by omega) (by omega)
  repeat (first | exact tot_some _ | exact hL | exact h1 | exact h2 | exact h3 | exact h4 | exact h5 | refine tot_ite (fun _ => ?_) fun _ => ?_ | refine tot_elim (fun _ => ?_) fun _ => ?_ | refine tot_bind ?_ fun _ _ => ?_)
theorem tot_class10 {c : GClass} (hu : uGClass c ≤ 1048576) : Tot (ref10_class c) := by
  unfold ref10_class
  rw [fuel_len, fuel_len, fuel_len]
  have hp := uC_p c
  have hl1 := len_lsum u1_str c.fParams
  have hl2 := len_lsum u1_O c.fAbove
  have hl3 := len_lsum u1_M c.fMethods
  have hL1 : Tot (ref10_class_L1 c (c.fParams.length + 1) 0) := by
    refine tot_loop1 (ref10_class_L1 c) c.fParams.length (fun n k hlt ih => ?_) (fun n k hlt => ?_) _ 0 (by omega) (by omega)
    · rw [ref10_class_L1, if_pos (by simpa using hlt), idx_lt hlt, w64_succ hlt (by omega), obs]
      have h2 := lsum_mem (u := fun s => List.length s + 1) (List.getElem_mem hlt)
      exact tot_bind (tot_Name (by omega)) fun _ _ => tot_ite (fun _ => tot_some _) fun _ => ih
    · rw [ref10_class_L1, if_neg (by simpa using hlt)]; exact tot_some _
  have hL2 : Tot (ref10_class_L2 c (c.fAbove.length + 1) 0) := by
    refine tot_loop1 (ref10_class_L2 c) c.fAbove.length (fun n k hlt ih => ?_) (fun n k hlt => ?_) _ 0 (by omega) (by omega)
    · rw [ref10_class_L2, if_pos (by simpa using hlt), idx_lt hlt, w64_succ hlt (by omega), obs, obs]
      refine tot_bind (tot_bind (tot_ORight _ _) fun _ _ => ?_) fun _ _ => tot_ite (fun _ => tot_some _) fun _ => ih
      repeat (first | exact tot_some _ | refine tot_ite (fun _ => ?_) fun _ => ?_)
    · rw [ref10_class_L2, if_neg (by simpa using hlt)]; exact tot_some _
  have hL3 : Tot (ref10_class_L3 c (c.fMethods.length + 1) 0) := by
    refine tot_loop1 (ref10_class_L3 c) c.fMethods.length (fun n k hlt ih => ?_) (fun n k hlt => ?_) _ 0 (by omega) (by omega)
    · rw [ref10_class_L3, if_pos (by simpa using hlt), idx_lt hlt, w64_succ hlt (by omega), obs]
      have h2 := lsum_mem (u := uGMethod) (List.getElem_mem hlt)
      exact tot_bind (tot_method10 _ (by omega)) fun _ _ => tot_ite (fun _ => tot_some _) fun _ => ih
    · rw [ref10_class_L3, if_neg (by simpa using hlt)]; exact tot_some _
  have h1 : Tot (ref02_Name c.fName) := tot_Name (by omega)
  have h2 : Tot (ref02_Name c.fSuper) := tot_Name (by omega)
  have h3 : Tot (ref10_vars c.fFields 12 (c.fParams.length : Int)) := tot_vars _ _ (by omega)
  repeat (first | exact tot_some _ | exact hL1 | exact hL2 | exact hL3 | exact h1 | exact h2 | exact h3 | refine tot_ite (fun _ => ?_) fun _ => ?_ | refine tot_elim (fun _ => ?_) fun _ => ?_ | refine tot_bind ?_ fun _ _ => ?_)
theorem tot_SSize : ∀ (n : Nat) (s : GStmt), mGStmt s < n → uGStmt s ≤ 1048576 → Tot (ref08_Size n s)
  | 0, s, h, _ => by omega
  | n + 1, s, h, hu => by
    rw [mS_eq] at h
    have hp := uS_p s
    have hl1 := len_lsum u1_S s.fBody
    have hl2 := len_lsum u1_S s.fElse
    simp only [ref08_Size, fuel_len]
    refine tot_bind ?_ fun _ _ => tot_bind ?_ fun _ _ => tot_some _
    · refine tot_loop2 (ref08_Size_L1 s (ref08_Size n)) s.fBody.length (fun m k x hlt ih => ?_) (fun m k x hlt => ?_) _ 0 _ (by omega) (by omega)
      · rw [ref08_Size_L1, if_pos (by simpa using hlt), idx_lt hlt, w64_succ hlt (by omega), obs]
        have h1 := lsum_mem (u := mGStmt) (List.getElem_mem hlt)
        have h2 := lsum_mem (u := uGStmt) (List.getElem_mem hlt)
        exact tot_bind (tot_SSize n _ (by omega) (by omega)) fun _ _ => ih _
      · rw [ref08_Size_L1, if_neg (by simpa using hlt)]; exact tot_some _
    · refine tot_loop2 (ref08_Size_L2 s (ref08_Size n)) s.fElse.length (fun m k x hlt ih => ?_) (fun m k x hlt => ?_) _ 0 _ (by omega) (by omega)
      · rw [ref08_Size_L2, if_pos (by simpa using hlt), idx_lt hlt, w64_succ hlt (by omega), obs]
        have h1 := lsum_mem (u := mGStmt) (List.getElem_mem hlt)
        have h2 := lsum_mem (u := uGStmt) (List.getElem_mem hlt)
        exact tot_bind (tot_SSize n _ (by omega) (by omega)) fun _ _ => ih _
      · rw [ref08_Size_L2, if_neg (by simpa using hlt)]; exact tot_some _
theorem tot_Stmts {c : GClass} (hu : uGClass c ≤ 1048576) : Tot (ref09_Stmts c) := by
  unfold ref09_Stmts
  rw [fuel_len]
  have hp := uC_p c
  have hl3 := len_lsum u1_M c.fMethods
  refine tot_bind ?_ fun _ _ => tot_some _
  refine tot_loop2 (ref09_Stmts_L1 c) c.fMethods.length (fun n k x hlt ih => ?_) (fun n k x hlt => ?_) _ 0 _ (by omega) (by omega)
  · rw [ref09_Stmts_L1, if_pos (by simpa using hlt), w64_succ hlt (by omega), idx_lt hlt, obs, Option.getD_some, fuel_len]
    have h2 := lsum_mem (u := uGMethod) (List.getElem_mem hlt)
    have h3 := uM_p c.fMethods[k]
    have hl := len_lsum u1_S c.fMethods[k].fBody
    refine tot_bind ?_ fun _ _ => ih _
    refine tot_loop2 (ref09_Stmts_L2 c (k : Int)) c.fMethods[k].fBody.length (fun m j y hj ih2 => ?_) (fun m j y hj => ?_) _ 0 _ (by omega) (by omega)
    · rw [ref09_Stmts_L2, idx_lt hlt, obs, if_pos (by simpa using hj), obs, idx_lt hj, obs, w64_succ hj (by omega)]
      have h4 := lsum_mem (u := uGStmt) (List.getElem_mem hj)
      exact tot_bind (tot_SSize _ _ (by omega) (by omega)) fun _ _ => ih2 _
    · rw [ref09_Stmts_L2, idx_lt hlt, obs, if_neg (by simpa using hj)]; exact tot_some _
  · rw [ref09_Stmts_L1, if_neg (by simpa using hlt)]; exact tot_some _
theorem tot_Right10 {p : List GClass} (hu : lsum uGClass p ≤ 1048576) : Tot (ref10_Right p) := by
  unfold ref10_Right
  rw [fuel_len]
  have hl := len_lsum u1_C p
  refine tot_bind ?_ fun _ _ => tot_elim (fun _ => tot_some _) fun _ => tot_some _
  refine tot_loop2 (ref10_Right_L1 p) p.length (fun n k x hlt ih => ?_) (fun n k x hlt => ?_) _ 0 _ (by omega) (by omega)
  · rw [ref10_Right_L1, if_pos (by simpa using hlt), w64_succ hlt (by omega), idx_lt hlt]
    simp only [obs]
    have h2 := lsum_mem (u := uGClass) (List.getElem_mem hlt)
    exact tot_bind (tot_ite (fun _ => tot_some _) fun _ => tot_bind (tot_class10 (by omega)) fun _ _ => tot_some _) fun _ _ => tot_ite (fun _ => tot_some _) fun _ => tot_bind (tot_Stmts (by omega)) fun _ _ => ih _
  · rw [ref10_Right_L1, if_neg (by simpa using hlt)]; exact tot_some _

/-! ### The types of a program; what is wrong with it: never a failure, where it counts little. -/
theorem room_u {n m b : Int} (h : n + m ≤ 10000000) (h0 : 0 ≤ n + m) (hb : 0 ≤ b) (hb2 : b ≤ 1000) : room (n + m) b = some () := by
  refine room_ok ?_
  refine Int.le_trans (Int.mul_le_mul_of_nonneg_right h hb) ?_
  refine Int.le_trans (Int.mul_le_mul_of_nonneg_left hb2 (by omega)) ?_
  omega
theorem tp_lines : ∀ (n : Nat) (l : List GStmt) (x : GLine_ref12), mLGStmt l < n → lsum uGStmt l ≤ 1048576 → TP (fun r => r.length ≤ lsum uGStmt l) (ref12_lines n l x)
  | 0, l, x, h, _ => by omega
  | n + 1, l, x, h, hu => by
    have hl := len_lsum u1_S l
    rw [mLS_sum] at h
    simp only [ref12_lines, fuel_len]
    refine tp_bind (R := fun r => r.length ≤ lsum uGStmt l) ?_ fun r hr => tp_some hr
    refine tp_loop (ref12_lines_L1 l x (ref12_lines n)) l.length (fun k s => s.length + lsum uGStmt (l.drop k) ≤ lsum uGStmt l) (fun m k s hlt hi ih => ?_) (fun m s hi => ?_) _ 0 _ (by omega) (by omega) (by simp)
    · rw [ref12_lines_L1, if_pos (by simpa using hlt), idx_lt hlt, w64_succ hlt (by omega)]
      simp only [obs]
      have h1 := lsum_mem (u := mGStmt) (List.getElem_mem hlt)
      have h3 := uS_p l[k]
      have h4 := lsum_drop uGStmt hlt
      rw [mS_eq] at h1
      rw [room_u (by rw [List.length_singleton]; omega) (by omega) (by omega) (by omega), obs]
      refine tp_bind (tp_lines n _ _ (by rw [mLS_sum]; omega) (by omega)) fun y hy => ?_
      rw [room_u (by rw [List.length_append, List.length_singleton]; omega) (by omega) (by omega) (by omega), obs]
      refine tp_bind (tp_lines n _ _ (by rw [mLS_sum]; omega) (by omega)) fun z hz => ?_
      rw [room_u (by rw [List.length_append, List.length_append, List.length_singleton]; omega) (by omega) (by omega) (by omega), obs]
      exact ih _ (by simp only [List.length_append, List.length_singleton]; omega)
    · rw [ref12_lines_L1, if_neg (by simp)]
      rw [List.drop_eq_nil_of_le (Nat.le_refl _)] at hi
      exact tp_some (by simpa [lsum] using hi)
theorem tp_Vars12 {m : GMethod} (hu : uGMethod m ≤ 1048576) : TP (fun r => r = m.fParams ++ m.fLocals) (ref12_Vars m) := by
  unfold ref12_Vars
  have hp := uM_p m
  have hl1 := len_lsum u1_V m.fParams
  have hl2 := len_lsum u1_V m.fLocals
  rw [room_u (by simp; omega) (by omega) (by omega) (by omega), obs, room_u (by simp; omega) (by omega) (by omega) (by omega), obs]
  exact tp_some (by simp)
theorem tp_Types {p : List GClass} (hu : lsum uGClass p ≤ 1048576) : TP (fun r => r.length ≤ lsum uGClass p) (ref12_Types p) := by
  unfold ref12_Types
  rw [fuel_len]
  have hl := len_lsum u1_C p
  refine tp_bind (R := fun r => r.length ≤ lsum uGClass p) ?_ fun r hr => tp_some hr
  refine tp_loop (ref12_Types_L1 p) p.length (fun k s => s.length + lsum uGClass (p.drop k) ≤ lsum uGClass p) (fun m i s hlt hi ih => ?_) (fun m s hi => ?_) _ 0 _ (by omega) (by omega) (by simp)
  · rw [ref12_Types_L1, if_pos (by simpa using hlt), idx_lt hlt, w64_succ hlt (by omega)]
    simp only [obs, Option.getD_some, fuel_len]
    have hd := lsum_drop uGClass hlt
    have hc := uC_p p[i]
    have hlf := len_lsum u1_V p[i].fFields
    have hlm := len_lsum u1_M p[i].fMethods
    refine tp_bind (R := fun r => r.length ≤ s.length + p[i].fFields.length) ?_ fun s1 hs1 => ?_
    · refine tp_loop (ref12_Types_L2 p (i : Int)) p[i].fFields.length (fun k t => t.length ≤ s.length + k) (fun m k t hk ht ih2 => ?_) (fun m t ht => ?_) _ 0 _ (by omega) (by omega) (by omega)
      · rw [ref12_Types_L2, idx_lt hlt, obs, if_pos (by simpa using hk), obs, idx_lt hk, obs, w64_succ hk (by omega), room_u (by rw [List.length_singleton]; omega) (by omega) (by omega) (by omega), obs]
        exact ih2 _ (by rw [List.length_append, List.length_singleton]; omega)
      · rw [ref12_Types_L2, idx_lt hlt, obs, if_neg (by simp)]
        exact tp_some ht
    · refine tp_bind (R := fun r => r.length ≤ s1.length + lsum uGMethod p[i].fMethods) ?_ fun s2 hs2 => ih _ (by omega)
      refine tp_loop (ref12_Types_L3 p (i : Int)) p[i].fMethods.length (fun k t => t.length + lsum uGMethod (p[i].fMethods.drop k) ≤ s1.length + lsum uGMethod p[i].fMethods) (fun m k t hk ht ih2 => ?_) (fun m t ht => ?_) _ 0 _ (by omega) (by omega) (by simp)
      · rw [ref12_Types_L3, idx_lt hlt, obs, if_pos (by simpa using hk), obs, idx_lt hk, obs, w64_succ hk (by omega)]
        have hdm := lsum_drop uGMethod hk
        have hm := uM_p p[i].fMethods[k]
        have hlp := len_lsum u1_V p[i].fMethods[k].fParams
        have hll := len_lsum u1_V p[i].fMethods[k].fLocals
        rw [room_u (by rw [List.length_singleton]; omega) (by omega) (by omega) (by omega), obs]
        refine tp_bind (tp_Vars12 (by omega)) fun v hv => ?_
        have hvl : v.length = p[i].fMethods[k].fParams.length + p[i].fMethods[k].fLocals.length := by rw [hv, List.length_append]
        rw [fuel_len]
        refine tp_bind (R := fun r => r.length ≤ t.length + 1 + v.length) ?_ fun t1 ht1 => ?_
        · refine tp_loop (ref12_Types_L4 (i : Int) (k : Int) v) v.length (fun j y => y.length ≤ t.length + 1 + j) (fun m j y hj hy ih3 => ?_) (fun m y hy => ?_) _ 0 _ (by omega) (by omega) (by simp)
          · rw [ref12_Types_L4, if_pos (by simpa using hj), idx_lt hj, obs, obs, w64_succ hj (by omega), room_u (by rw [List.length_singleton]; omega) (by omega) (by omega) (by omega), obs]
            exact ih3 _ (by rw [List.length_append, List.length_singleton]; omega)
          · rw [ref12_Types_L4, if_neg (by simp)]
            exact tp_some hy
        · refine tp_bind (tp_lines _ _ _ (by omega) (by omega)) fun ls hls => ?_
          rw [fuel_len]
          refine tp_bind (R := fun r => r.length ≤ t1.length + ls.length) ?_ fun t2 ht2 => ih2 _ (by omega)
          refine tp_loop (ref12_Types_L5 (i : Int) (k : Int) ls) ls.length (fun j y => y.length ≤ t1.length + j) (fun m j y hj hy ih3 => ?_) (fun m y hy => ?_) _ 0 _ (by omega) (by omega) (by simp)
          · rw [ref12_Types_L5, if_pos (by simpa using hj), idx_lt hj, obs, w64_succ hj (by omega)]
            refine tp_bind (R := fun r => r.length ≤ y.length + 1) (tp_ite (fun _ => ?_) fun _ => tp_some (by omega)) fun y2 hy2 => ih3 _ (by omega)
            rw [obs, obs, room_u (by rw [List.length_singleton]; omega) (by omega) (by omega) (by omega), obs]
            exact tp_some (by rw [List.length_append, List.length_singleton]; omega)
          · rw [ref12_Types_L5, if_neg (by simp)]
            exact tp_some hy
      · rw [ref12_Types_L3, idx_lt hlt, obs, if_neg (by simp)]
        rw [List.drop_eq_nil_of_le (Nat.le_refl _)] at ht
        exact tp_some (by simpa [lsum] using ht)
  · rw [ref12_Types_L1, if_neg (by simp)]
    rw [List.drop_eq_nil_of_le (Nat.le_refl _)] at hi
    exact tp_some (by simpa [lsum] using hi)
theorem tot_Arity13 {p : List GClass} (hp : p.length < 9223372036854775806) (name : List UInt8) : Tot (ref13_Arity p name) := by
  unfold ref13_Arity
  rw [ref13_Find_eq hp, obs]
  cases hf : fi p name with
  | none => rw [fnd_none hf, if_pos (by simp)]; exact tot_some _
  | some i => rw [fnd_some hf, if_neg (by simp), idx_lt (fi_lt hf), obs]; exact tot_some _
theorem tot_fault13 (a b : Int) : ref13_fault a b = some ⟨a, b⟩ := rfl
theorem lsum_take_le {α : Type} (u : α → Nat) : ∀ (l : List α) (a b : Nat), lsum u ((l.take b).drop a) ≤ lsum u l
  | [], a, b => by simp [lsum]
  | x :: l, a, 0 => by simp [lsum]
  | x :: l, 0, b + 1 => by have := lsum_take_le u l 0 b; simp only [List.drop_zero] at this; simp only [List.take_succ_cons, List.drop_zero, lsum]; omega
  | x :: l, a + 1, b + 1 => by have := lsum_take_le u l a b; simp only [List.take_succ_cons, List.drop_succ_cons, lsum]; omega
theorem tot_types13 {p : List GClass} (hu : lsum uGClass p ≤ 1048576) {i : Nat} (hi : i < p.length) : Tot (ref13_types p (i : Int)) := by
  unfold ref13_types
  have hl := len_lsum u1_C p
  rw [w64_succ hi (by omega)]
  have hcut : cutL p (i : Int) ((i + 1 : Nat) : Int) = some ((p.take (i + 1)).drop i) := by unfold cutL; rw [if_pos ⟨by omega, by omega, by omega⟩]; simp
  rw [hcut, obs]
  have hs := lsum_take_le uGClass p i (i + 1)
  refine tot_of (tp_bind (tp_Types (by omega)) fun ns hns => tp_of ?_)
  rw [fuel_len]
  refine tot_bind ?_ fun _ _ => tot_elim (fun _ => tot_some _) fun _ => tot_some _
  refine tot_loop1 (ref13_types_L1 p ns) ns.length (fun n k hlt ih => ?_) (fun n k hlt => ?_) _ 0 (by omega) (by omega)
  · rw [ref13_types_L1, if_pos (by simpa using hlt), idx_lt hlt, w64_succ hlt (by omega)]
    obtain ⟨ar, har⟩ := tot_Arity13 (p := p) (by omega) ns[k].fType.fClass
    simp only [obind, har, tot_fault13]
    by_cases h1 : (ns[k].fType.fKind != 2) = true
    · rw [if_pos h1]; exact ih
    · rw [if_neg h1]
      by_cases h2 : (decide (ar < 0)) = true
      · rw [if_pos h2]; exact tot_some _
      · rw [if_neg h2]
        by_cases h3 : (ns[k].fType.fN != 0) = true
        · rw [if_pos h3]
          simp only
          by_cases h4 : (ns[k].fType.fN != ar) = true
          · rw [if_pos h4]; exact tot_some _
          · rw [if_neg h4]; exact ih
        · rw [if_neg h3]
          simp only
          rw [if_neg (by simp)]; exact ih
  · rw [ref13_types_L1, if_neg (by simpa using hlt)]; exact tot_some _
theorem tp_names13 {l : List GVar} (hu : l.length ≤ 1048576) : TP (fun r => r = l.map (·.fName)) (ref13_names l) := by
  unfold ref13_names
  rw [foldL (ref13_names_L1 l) (l := l) (by omega) (f := fun s y => Option.bind (room ((s.length : Int) + ([y.fName].length : Int)) 16) fun _ => some (s ++ [y.fName])) (fin := some) (fun n s x => by
    rw [ref13_names_L1]
    by_cases h : decide (x < (l.length : Int)) = true
    · rw [if_pos h, if_pos h]
      cases idx l x with
      | none => simp only [Option.bind_none]
      | some y =>
        rw [obs, obs]
        cases room ((s.length : Int) + ([y.fName].length : Int)) 16 with
        | none => simp only [Option.bind_none]
        | some u => simp only [obs]
    · rw [if_neg h, if_neg h]), foldO_room _ (·.fName) 2000000 (fun s y hs => by
    rw [List.length_singleton, room_u (by omega) (by omega) (by omega) (by omega), obs]) l [] (by rw [List.length_nil]; omega)]
  exact tp_some (by simp)
/-- A name that stands ahead of itself. -/
theorem tp_Twice {l : List (List UInt8)} (hl : l.length ≤ 9223372036854775806) : TP (fun r => r < (l.length : Int)) (ref13_Twice l) := by
  unfold ref13_Twice
  rw [fuel_len]
  refine tp_bind (R := fun c => ∀ v, c = Ctl.stop v → v < (l.length : Int)) ?_ fun c hc => ?_
  · have := tp_loop (σ := Unit) (Q := fun c : Ctl Int Unit => ∀ v, c = Ctl.stop v → v < (l.length : Int)) (fun n _ x => ref13_Twice_L1 l n x) l.length (fun _ _ => True) (fun n k _ hlt _ ih => ?_) (fun n _ _ => ?_) (l.length + 1) 0 () (by omega) (by omega) trivial
    · exact this
    · show TP _ (ref13_Twice_L1 l (n + 1) (k : Int))
      rw [ref13_Twice_L1, if_pos (by simpa using hlt), w64_succ hlt (by omega), fuel_len]
      refine tp_bind (R := fun c => ∀ v, c = Ctl.stop v → v = (k : Int)) ?_ fun c hc => ?_
      · have h2 := tp_loop (σ := Unit) (Q := fun c : Ctl Int Unit => ∀ v, c = Ctl.stop v → v = (k : Int)) (fun n _ x => ref13_Twice_L2 l (k : Int) n x) k (fun _ _ => True) (fun m j _ hj _ ih2 => ?_) (fun m _ _ => ?_) (k + 1) 0 () (by omega) (by omega) trivial
        · exact h2
        · show TP _ (ref13_Twice_L2 l (k : Int) (m + 1) (j : Int))
          rw [ref13_Twice_L2, if_pos (by simpa using hj), idx_lt (show j < l.length by omega), idx_lt hlt, obs, obs, w64_succ hj (by omega)]
          exact tp_ite (fun _ => tp_some (by intro v hv; cases hv; rfl)) fun _ => ih2 () trivial
        · show TP _ (ref13_Twice_L2 l (k : Int) (m + 1) (k : Int))
          rw [ref13_Twice_L2, if_neg (by simp)]
          exact tp_some (by intro v hv; cases hv)
      · cases c with
        | stop v => exact tp_some (by intro w hw; cases hw; rw [hc v rfl]; omega)
        | next u => exact ih () trivial
    · show TP _ (ref13_Twice_L1 l (n + 1) (l.length : Int))
      rw [ref13_Twice_L1, if_neg (by simp)]
      exact tp_some (by intro v hv; cases hv)
  · cases c with
    | stop v => exact tp_some (hc v rfl)
    | next u => exact tp_some (by omega)
theorem tot_class13 {p : List GClass} (hu : lsum uGClass p ≤ 1048576) {i : Nat} (hi : i < p.length) : Tot (ref13_class p (i : Int)) := by
  have hl := len_lsum u1_C p
  have hm := lsum_mem (u := uGClass) (List.getElem_mem hi)
  have hc := uC_p p[i]
  have hlp := len_lsum u1_str p[i].fParams
  have hlf := len_lsum u1_V p[i].fFields
  have hlm := len_lsum u1_M p[i].fMethods
  unfold ref13_class
  rw [idx_lt hi, obs, fuel_len]
  have hF1 : Tot (ref13_Find p p[i].fName) := by rw [ref13_Find_eq (by omega)]; exact tot_some _
  have hF2 : Tot (ref13_Find p p[i].fSuper) := by rw [ref13_Find_eq (by omega)]; exact tot_some _
  have hA : Tot (ref13_Arity p p[i].fSuper) := tot_Arity13 (by omega) _
  have hT : Tot (ref13_Twice p[i].fParams) := tot_of (tp_Twice (by omega))
  have hY : Tot (ref13_types p (i : Int)) := tot_types13 hu hi
  have hL : Tot (ref13_class_L1 p[i] (p[i].fMethods.length + 1) [] 0) := by
    refine tot_of (tp_loop (Q := fun _ => True) (ref13_class_L1 p[i]) p[i].fMethods.length (fun k s => s.length ≤ k) (fun m k s hk hs ih => ?_) (fun m s hs => ?_) _ 0 _ (by omega) (by omega) (by simp))
    · rw [ref13_class_L1, if_pos (by simpa using hk), idx_lt hk, obs, w64_succ hk (by omega), room_u (by rw [List.length_singleton]; omega) (by omega) (by omega) (by omega), obs]
      have hmm := lsum_mem (u := uGMethod) (List.getElem_mem hk)
      have hmp := uM_p p[i].fMethods[k]
      have h1 := len_lsum u1_V p[i].fMethods[k].fParams
      have h2 := len_lsum u1_V p[i].fMethods[k].fLocals
      refine tp_bind (tp_of (tot_of (tp_Twice (by rw [List.length_append, List.length_singleton]; omega)))) fun _ _ => tp_ite (fun _ => ?_) fun _ => ?_
      · rw [tot_fault13, obs]; exact tp_some trivial
      · refine tp_bind (tp_Vars12 (by omega)) fun v hv => tp_bind (tp_names13 (l := v) (by rw [hv, List.length_append]; omega)) fun ns hns => tp_bind (tp_Twice (by rw [hns, hv, List.length_map, List.length_append]; omega)) fun t ht => tp_ite (fun h0 => ?_) fun _ => ih _ (by rw [List.length_append, List.length_singleton]; omega)
        rw [hns, List.length_map] at ht
        rw [idx_in (by simpa using h0) ht, obs, tot_fault13, obs]
        exact tp_some trivial
    · rw [ref13_class_L1, if_neg (by simp)]; exact tp_some trivial
  refine tot_bind (tot_bind hF1 fun _ _ => tot_ite (fun _ => tot_some _) fun _ => tot_bind hT fun _ _ => tot_some _) fun _ _ => tot_ite (fun _ => tot_some _) fun _ => ?_
  refine tot_bind (tot_ite (fun _ => tot_bind hF2 fun _ _ => tot_some _) fun _ => tot_some _) fun _ _ => tot_ite (fun _ => tot_some _) fun _ => ?_
  refine tot_bind (tot_ite (fun _ => tot_bind hA fun _ _ => tot_some _) fun _ => tot_some _) fun _ _ => tot_ite (fun _ => tot_some _) fun _ => ?_
  refine tot_bind hY fun _ _ => tot_ite (fun _ => tot_some _) fun _ => tot_of (Q := fun _ => True) ?_
  refine tp_bind (tp_names13 (l := p[i].fFields) (by omega)) fun ns hns => tp_bind (tp_Twice (by rw [hns, List.length_map]; omega)) fun t ht => tp_ite (fun h0 => ?_) fun _ => tp_of ?_
  · rw [hns, List.length_map] at ht
    rw [idx_in (by simpa using h0) ht, obs, tot_fault13, obs]
    exact tp_some trivial
  · exact tot_bind hL fun _ _ => tot_elim (fun _ => tot_some _) fun _ => tot_some _
theorem tot_Check13 {p : List GClass} (hu : lsum uGClass p ≤ 1048576) : Tot (ref13_Check p) := by
  have hl := len_lsum u1_C p
  unfold ref13_Check
  rw [fuel_len]
  refine tot_bind (tot_Right10 hu) fun _ _ => tot_ite (fun _ => by rw [tot_fault13, obs]; exact tot_some _) fun _ => tot_bind ?_ fun _ _ => tot_elim (fun _ => tot_some _) fun _ => tot_some _
  refine tot_loop1 (ref13_Check_L1 p) p.length (fun n k hlt ih => ?_) (fun n k hlt => ?_) _ 0 (by omega) (by omega)
  · rw [ref13_Check_L1, if_pos (by simpa using hlt), w64_succ hlt (by omega)]
    exact tot_bind (tot_class13 hu hlt) fun _ _ => tot_ite (fun _ => tot_some _) fun _ => ih
  · rw [ref13_Check_L1, if_neg (by simpa using hlt)]; exact tot_some _

theorem upN_suf {p : List GClass} : ∀ (n : Nat) (name nm : List UInt8) (k : Nat), (upN p n name).length < n → k ∈ upN p n name → fi p nm = some k → ∃ pre, upN p n name = pre ++ upN p n nm ∧ k ∉ pre
  | 0, name, nm, k, h, _, _ => by simp at h
  | n + 1, name, nm, k, h, hk, hnm => by
    cases hf : fi p name with
    | none => simp only [upN, hf] at hk; simp at hk
    | some i =>
      by_cases hik : i = k
      · subst hik
        exact ⟨[], by rw [upN_fi (show fi p name = fi p nm by rw [hf, hnm])]; rfl, by simp⟩
      · by_cases hs : (sup p i == []) = true
        · simp only [upN, hf, hs, if_true] at hk
          simp at hk; exact absurd hk.symm hik
        · have e1 : upN p (n + 1) name = i :: upN p n (sup p i) := by simp only [upN, hf, if_neg hs]
          rw [e1] at h hk
          simp only [List.length_cons] at h
          obtain ⟨pre, h1, h2⟩ := upN_suf n (sup p i) nm k (by omega) ((List.mem_cons.1 hk).resolve_left (fun e => hik e.symm)) hnm
          have hl : (upN p n nm).length < n := by
            have := congrArg List.length h1
            rw [List.length_append] at this; omega
          refine ⟨i :: pre, by rw [e1, upN_more n nm hl, h1]; rfl, ?_⟩
          simp only [List.mem_cons, not_or]
          exact ⟨fun e => hik e.symm, h2⟩
def stp (p : List GClass) : List Nat → List GOwner → List GOwner
  | [], l => l
  | i :: r, l => stp p r (nextS p i l)
theorem rs_pre (p : List GClass) (e : Nat) (U : List Nat) : ∀ (pre : List Nat) (l : List GOwner), e ∉ pre → rs p e (pre ++ U) l = rs p e U (stp p pre l)
  | [], l, _ => rfl
  | i :: r, l, h => by
    simp only [List.mem_cons, not_or] at h
    simp only [List.cons_append, rs, stp]
    rw [if_neg (fun e' => h.1 e'.symm)]
    exact rs_pre p e U r _ h.2
theorem rs_app (p : List GClass) (e : Nat) (R : List Nat) : ∀ (c : List Nat) (l : List GOwner), e ∈ c → rs p e (c ++ R) l = rs p e c l
  | [], l, h => by simp at h
  | i :: r, l, h => by
    simp only [List.cons_append, rs]
    by_cases hi : i = e
    · rw [if_pos hi, if_pos hi]
    · rw [if_neg hi, if_neg hi]
      exact rs_app p e R r _ ((List.mem_cons.1 h).resolve_left (fun x => hi x.symm))
/-- Where a raise comes to an end: the whole way up serves as well as the chain. -/
theorem raiseS_up {p : List GClass} {a b : List UInt8} {l : List GOwner} (h : (raiseS p a l b).2 = true) : ∃ e, fi p b = some e ∧ (l.length : Int) = ari p a + 1 ∧ l ≠ [] ∧ e ∈ ch p a ∧ raiseS p a l b = rs p e (upN p (p.length + 1) a) l := by
  cases hf : fi p b with
  | none => unfold raiseS at h; rw [hf] at h; cases h
  | some e =>
    have e1 : raiseS p a l b = if (l.length : Int) = ari p a + 1 ∧ l ≠ [] then rs p e (ch p a) l else ([], false) := by unfold raiseS; rw [hf]
    rw [e1] at h
    by_cases hc : (l.length : Int) = ari p a + 1 ∧ l ≠ []
    · rw [if_pos hc] at h
      have hm : e ∈ ch p a := Classical.byContradiction fun hn => by rw [rs_none p e _ l hn] at h; cases h
      obtain ⟨R, k1, _⟩ := ch_facts p a
      exact ⟨e, rfl, hc.1, hc.2, hm, by rw [e1, if_pos hc, k1, rs_app p e R _ l hm]⟩
    · rw [if_neg hc] at h; cases h
theorem raiseS_of {p : List GClass} {a b : List UInt8} {l : List GOwner} {e : Nat} (hf : fi p b = some e) (h1 : (l.length : Int) = ari p a + 1) (h2 : l ≠ []) (hm : e ∈ ch p a) : raiseS p a l b = rs p e (upN p (p.length + 1) a) l := by
  obtain ⟨R, k1, _⟩ := ch_facts p a
  unfold raiseS
  rw [hf]
  show (if (l.length : Int) = ari p a + 1 ∧ l ≠ [] then rs p e (ch p a) l else ([], false)) = _
  rw [if_pos ⟨h1, h2⟩, k1, rs_app p e R _ l hm]
/-- Lists that are alike but where the second has `y`. -/
def RelA (x y : GOwner) (l m : List GOwner) : Prop := ∃ lt mt, l = x :: lt ∧ m = y :: mt ∧ lt.length = mt.length ∧ ∀ (i : Nat) (u v : GOwner), lt[i]? = some u → mt[i]? = some v → u = v ∨ v = y
theorem relA_at {x y : GOwner} {l m : List GOwner} (h : RelA x y l m) (n : Int) : putAt l n = putAt m n ∨ putAt m n = y := by
  obtain ⟨lt, mt, rfl, rfl, hl, hr⟩ := h
  unfold putAt
  by_cases h0 : n < 0
  · rw [idx_neg h0, idx_neg h0]; exact .inl rfl
  · obtain ⟨k, rfl⟩ : ∃ k : Nat, n = (k : Int) := ⟨n.toNat, by omega⟩
    rw [idx_nat, idx_nat]
    cases k with
    | zero => exact .inr rfl
    | succ k =>
      rw [List.getElem?_cons_succ, List.getElem?_cons_succ]
      rcases Nat.lt_or_ge k lt.length with h1 | h1
      · rw [List.getElem?_eq_getElem h1, List.getElem?_eq_getElem (show k < mt.length by omega)]
        exact hr k _ _ (List.getElem?_eq_getElem h1) (List.getElem?_eq_getElem (by omega))
      · rw [List.getElem?_eq_none h1, List.getElem?_eq_none (by omega)]; exact .inl rfl
theorem relA_put {x y : GOwner} {l m : List GOwner} (h : RelA x y l m) (o : GOwner) : putS o l = putS o m ∨ putS o m = y := by
  unfold putS
  split
  · exact relA_at h _
  · split
    · exact relA_at h _
    · exact .inl rfl
theorem relA_next (p : List GClass) (i : Nat) {x y : GOwner} {l m : List GOwner} (h : RelA x y l m) : RelA x y (nextS p i l) (nextS p i m) := by
  have hh := h
  obtain ⟨lt, mt, rfl, rfl, hl, hr⟩ := h
  refine ⟨(abv p i).map (putS · (x :: lt)), (abv p i).map (putS · (y :: mt)), rfl, rfl, by simp, fun j u v hu hv => ?_⟩
  rw [List.getElem?_map, Option.map_eq_some_iff] at hu hv
  obtain ⟨o, ho, rfl⟩ := hu
  obtain ⟨o', ho', rfl⟩ := hv
  rw [ho] at ho'; cases ho'
  exact relA_put hh o
theorem relA_rs (p : List GClass) (e : Nat) {x y : GOwner} : ∀ (c : List Nat) {l m : List GOwner}, RelA x y l m → (rs p e c m).2 = true → (rs p e c l).2 = true ∧ RelA x y (rs p e c l).1 (rs p e c m).1
  | [], l, m, _, h => by cases h
  | i :: r, l, m, hR, h => by
    simp only [rs] at h ⊢
    by_cases hi : i = e
    · rw [if_pos hi, if_pos hi]; exact ⟨rfl, hR⟩
    · rw [if_neg hi] at h
      rw [if_neg hi, if_neg hi]
      exact relA_rs p e r (relA_next p i hR) h
theorem fitL_iff {l m : List GOwner} : fitL l m = true ↔ ∃ x lt y mt, l = x :: lt ∧ m = y :: mt ∧ lt = mt ∧ (x = y ∨ (y.fKind = 5 ∧ narrow x = false)) := by
  cases l with
  | nil => simp [fitL]
  | cons x lt =>
    cases m with
    | nil => simp [fitL]
    | cons y mt =>
      simp only [fitL, Bool.and_eq_true, Bool.or_eq_true, decide_eq_true_eq, Bool.not_eq_true']
      constructor
      · rintro ⟨h1, h2⟩; exact ⟨x, lt, y, mt, rfl, rfl, h1, h2⟩
      · rintro ⟨x', lt', y', mt', h1, h2, h3, h4⟩
        injection h1 with e1 e2; injection h2 with e3 e4
        subst e1; subst e2; subst e3; subst e4
        exact ⟨h3, h4⟩
theorem fit_trans {x y : GOwner} {l m c : List GOwner} (hR : RelA x y l m) (h5 : y.fKind = 5) (hn : narrow x = false) (hc : dimS c = false) (h : fitL m c = true) : fitL l c = true := by
  obtain ⟨lt, mt, rfl, rfl, hl, hr⟩ := hR
  obtain ⟨y', mt', z, ct, h1, rfl, rfl, h2⟩ := fitL_iff.1 h
  injection h1 with e1 e2
  subst e1; subst e2
  have hany : ∀ v ∈ mt, v.fKind ≠ 5 := by
    unfold dimS at hc
    simp only [Bool.or_eq_false_iff, List.drop_succ_cons, List.drop_zero, List.any_eq_false, decide_eq_true_eq, List.mem_cons, List.not_mem_nil, or_false] at hc
    exact hc.2
  have : lt = mt := List.ext_getElem? fun i => by
    rcases Nat.lt_or_ge i lt.length with hi | hi
    · rw [List.getElem?_eq_getElem hi, List.getElem?_eq_getElem (show i < mt.length by omega)]
      rcases hr i _ _ (List.getElem?_eq_getElem hi) (List.getElem?_eq_getElem (by omega)) with h3 | h3
      · rw [h3]
      · exact absurd (by rw [h3]; exact h5) (hany _ (List.getElem_mem (show i < mt.length by omega)))
    · rw [List.getElem?_eq_none hi, List.getElem?_eq_none (by omega)]
  rw [this]
  refine fitL_iff.2 ⟨x, mt, z, mt, rfl, rfl, rfl, .inr ⟨?_, hn⟩⟩
  rcases h2 with rfl | ⟨h3, _⟩
  · exact h5
  · exact h3
theorem isS_obj {p : List GClass} {a b : GType} (ha : a.fKind = 2) (h : isS p a b = true) : b.fKind = 2 ∧ dimS (own b) = false ∧ dimS (own a) = false ∧ bel p a.fClass b.fClass = true ∧ (raiseS p a.fClass (own a) b.fClass).2 = true ∧ fitL (raiseS p a.fClass (own a) b.fClass).1 (own b) = true := by
  unfold isS at h
  rw [if_neg (by omega)] at h
  split at h
  · cases h
  · rename_i h1
    rw [if_neg (by simpa using ha)] at h
    split at h
    · cases h
    · rename_i h2
      split at h
      · rename_i h3
        simp only [not_or, Bool.not_eq_true, Bool.not_eq_false] at h1 h2
        exact ⟨Classical.byContradiction h1.1, h1.2, h2.1, h2.2, h3, h⟩
      · cases h
theorem acyclic {p : List GClass} (h : (chk p).fErr = 0) {a : List UInt8} {i : Nat} (ha : fi p a = some i) : (upN p (p.length + 1) a).length < p.length + 1 := by
  obtain ⟨c, hc, hcn⟩ := fi_spec ha
  have hle := upN_le p (p.length + 1) a
  rcases Nat.lt_or_ge (upN p (p.length + 1) a).length (p.length + 1) with h1 | h1
  · exact h1
  · exfalso
    unfold chk at h
    cases hf : p.find? (cyc p) with
    | some d => rw [hf] at h; simp at h
    | none =>
      rw [List.find?_eq_none] at hf
      refine hf c (List.mem_of_getElem? hc) ?_
      unfold cyc
      rw [hcn]
      exact decide_eq_true (by omega)
theorem is_trans {p : List GClass} (hchk : (chk p).fErr = 0) {a b c : GType} (h1 : isS p a b = true) (h2 : isS p b c = true) : isS p a c = true := by
  by_cases ha1 : a.fKind = 1
  · have hb1 : b.fKind = 1 := by unfold isS at h1; rw [if_pos ha1] at h1; exact of_decide_eq_true h1
    have hc1 : c.fKind = 1 := by unfold isS at h2; rw [if_pos hb1] at h2; exact of_decide_eq_true h2
    unfold isS; rw [if_pos ha1]; exact decide_eq_true hc1
  · have hb : b.fKind = 2 := by
      unfold isS at h1
      rw [if_neg ha1] at h1
      split at h1
      · cases h1
      · rename_i h3
        exact Classical.byContradiction fun h => h3 (.inl h)
    obtain ⟨hc, hdc, hdb, hbc, hrb, hfb⟩ := isS_obj hb h2
    by_cases ha : a.fKind = 2
    · obtain ⟨_, _, hda, hab, hra, hfa⟩ := isS_obj ha h1
      obtain ⟨eb, f1, n1, n2, m1, r1⟩ := raiseS_up hra
      obtain ⟨ec, f2, n3, n4, m2, r2⟩ := raiseS_up hrb
      have hac := bel_trans hab hbc
      have mc : ec ∈ ch p a.fClass := by
        unfold bel at hac; rw [f2] at hac; exact of_decide_eq_true hac
      have r3 := raiseS_of f2 n1 n2 mc
      obtain ⟨ia, hia⟩ : ∃ i, fi p a.fClass = some i := by
        cases h : fi p a.fClass with
        | some i => exact ⟨i, rfl⟩
        | none =>
          have : ch p a.fClass = [] := by unfold ch chN; rw [h]
          rw [this] at m1; simp at m1
      have hac1 := acyclic hchk hia
      obtain ⟨pre, s1, s2⟩ := upN_suf (p.length + 1) a.fClass b.fClass eb hac1 (mem_up.2 m1) f1
      -- the class that is come to does not stand ahead
      have hpre : ec ∉ pre := by
        intro hm
        have hbcl : b.fClass ≠ c.fClass := fun e => by rw [e, f2] at f1; cases f1; exact s2 hm
        have hup : ec ∈ upN p (p.length + 1) a.fClass := mem_up.2 mc
        obtain ⟨pre2, t1, t2⟩ := upN_suf (p.length + 1) a.fClass c.fClass ec hac1 hup f2
        have hcb : bel p c.fClass b.fClass = true := by
          unfold bel; rw [f1]
          refine decide_eq_true (mem_up.1 ?_)
          -- eb stands behind ec
          have key : ∀ (pre pre2 U V : List Nat), pre ++ U = pre2 ++ V → ec ∈ pre → ec ∉ pre2 → eb ∈ U → eb ∈ V := by
            intro pre
            induction pre with
            | nil => intro _ _ _ _ h; simp at h
            | cons x pre ih =>
              intro pre2 U V he hx hx2 hU
              cases pre2 with
              | nil => rw [List.nil_append] at he; rw [← he]; simp [hU]
              | cons y pre2 =>
                simp only [List.cons_append, List.cons.injEq] at he
                simp only [List.mem_cons, not_or] at hx2
                have hx' : ec ∈ pre := (List.mem_cons.1 hx).resolve_left (fun e => hx2.1 (by rw [e]; exact he.1))
                exact ih pre2 U V he.2 hx' hx2.2 hU
          refine key pre pre2 _ _ (by rw [← s1, ← t1]) hm t2 ?_
          exact mem_up.2 (by obtain ⟨_, _, _, k4, _⟩ := ch_facts p b.fClass; exact k4 eb f1)
        exact absurd hchk (antisym hbcl hbc hcb)
      have q1 : raiseS p a.fClass (own a) b.fClass = (stp p pre (own a), true) := by
        rw [r1, s1, rs_pre p eb _ pre _ s2]
        have : ∃ r, upN p (p.length + 1) b.fClass = eb :: r := by
          simp only [upN, f1]; split
          · exact ⟨[], rfl⟩
          · exact ⟨_, rfl⟩
        obtain ⟨r, hr⟩ := this
        rw [hr]; simp [rs]
      have q3 : raiseS p a.fClass (own a) c.fClass = rs p ec (upN p (p.length + 1) b.fClass) (stp p pre (own a)) := by
        rw [r3, s1, rs_pre p ec _ pre _ hpre]
      rw [q1] at hfa
      simp only at hfa
      rw [r2] at hrb hfb
      have fin : (rs p ec (upN p (p.length + 1) b.fClass) (stp p pre (own a))).2 = true ∧ fitL (rs p ec (upN p (p.length + 1) b.fClass) (stp p pre (own a))).1 (own c) = true := by
        obtain ⟨x, lt, y, mt, e1, e2, rfl, hxy⟩ := fitL_iff.1 hfa
        by_cases he : x = y
        · subst he
          rw [e1, ← e2]; exact ⟨hrb, hfb⟩
        · have h5 := (hxy.resolve_left he)
          have hR : RelA x y (stp p pre (own a)) (own b) := ⟨lt, lt, e1, e2, rfl, fun i u v hu hv => .inl (by rw [hu] at hv; exact Option.some.inj hv)⟩
          obtain ⟨g1, g2⟩ := relA_rs p ec _ hR hrb
          exact ⟨g1, fit_trans g2 h5.1 h5.2 hdc hfb⟩
      unfold isS
      rw [if_neg ha1, if_neg (by simp [hc, hdc]), if_neg (by simpa using ha), if_neg (by simp [hda, hac]), q3, if_pos fin.1]
      exact fin.2
    · unfold isS at h1 ⊢
      rw [if_neg ha1] at h1 ⊢
      split at h1
      · cases h1
      · first | rw [if_pos ha] at h1 | skip
        rw [if_neg (by simp [hc, hdc]), if_pos ha]
        exact h1
theorem law27_awake_true : law27_awake = some true := by decide +kernel
theorem law27_UnderOrder_true {a0 : List GClass} {a1 : A3 GType} (_h0 : listok (fun y => goodGClass y) a0) (_h1 : goodGType a1.a0 ∧ goodGType a1.a1 ∧ goodGType a1.a2) (hu : lsum uGClass a0 + 1 + (uGType a1.a0 + (uGType a1.a1 + (uGType a1.a2 + (0))) + 1) ≤ 1048576) : law27_UnderOrder a0 a1 = some true := by
  have haw := law27_awake_true
  have hl := len_lsum u1_C a0
  unfold law27_UnderOrder
  obtain ⟨g, hg, hgf⟩ := great27_eq (p := a0) (by omega)
  obtain ⟨f, hf⟩ := tot_Check13 (p := a0) (by omega)
  rw [hg, obs]
  cases g with
  | true => rw [if_pos rfl, obs, if_pos rfl, haw, obs]
  | false =>
    obtain ⟨hp, hA⟩ := hgf rfl
    have hp' : a0.length ≤ 1000000 := by omega
    rw [if_neg (by simp), hf, obs]
    by_cases h0 : f.fErr = 0
    · rw [if_neg (by simpa using h0), ref_Check_eq hp', obs, obs]
      by_cases h1 : (chk a0).fErr = 0
      · rw [if_neg (by simpa using h1)]
        simp only [under_Is_eq hp' hA, obs, haw]
        by_cases k1 : isS a0 a1.a0 a1.a1 = true
        · rw [if_neg (by simp [k1])]
          by_cases k2 : isS a0 a1.a1 a1.a2 = true
          · rw [if_neg (by simp [k2]), if_pos (is_trans h1 k1 k2)]
          · rw [if_pos (by simpa using k2)]
        · rw [if_pos (by simpa using k1)]
      · rw [if_pos (by simpa using h1), haw, obs]
    · rw [if_pos (by simpa using h0), obs, if_pos rfl, haw, obs]

end Go.Proofs.Ytkfgkkbfipgklaa
