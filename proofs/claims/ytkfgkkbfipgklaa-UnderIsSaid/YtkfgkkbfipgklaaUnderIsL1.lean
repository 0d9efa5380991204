/- A part of the proof that the law UnderIs gives true for every input. -/
import Derived.Test.YtkfgkkbfipgklaaAbsSL
import Derived.Test.YtkfgkkbfipgklaaAbsBC
import Derived.Test.YtkfgkkbfipgklaaUnderIsT
import Derived.Test.YtkfgkkbfipgklaaUnderIsD
/- The plain law. -/
namespace Go.Proofs.Ytkfgkkbfipgklaa
open Go.RowKit Go.Abs
/-! ### The first class of a name. -/
def fiN : List GClass → Nat → List UInt8 → Option Nat
  | [], _, _ => none
  | c :: t, k, name => if c.fName == name then some k else fiN t (k + 1) name
def fi (p : List GClass) (name : List UInt8) : Option Nat := fiN p 0 name
def fnd (p : List GClass) (name : List UInt8) : Int := match fi p name with | some i => (i : Int) | none => -1
theorem fiN_spec : ∀ (l : List GClass) (k : Nat) (name : List UInt8) (i : Nat), fiN l k name = some i → k ≤ i ∧ ∃ c, l[i - k]? = some c ∧ c.fName = name
  | [], k, name, i, h => by simp [fiN] at h
  | c :: t, k, name, i, h => by
    simp only [fiN] at h
    split at h
    · rename_i hc
      cases h
      exact ⟨Nat.le_refl _, c, by simp, by simpa using hc⟩
    · obtain ⟨h1, c', h2, h3⟩ := fiN_spec t (k + 1) name i h
      refine ⟨by omega, c', ?_, h3⟩
      rw [show i - k = (i - (k + 1)) + 1 by omega, List.getElem?_cons_succ]
      exact h2
theorem fiN_some : ∀ (l : List GClass) (k : Nat) (c : GClass), c ∈ l → ∃ i, fiN l k c.fName = some i
  | [], k, c, h => by simp at h
  | c' :: t, k, c, h => by
    simp only [fiN]
    split
    · exact ⟨k, rfl⟩
    · rename_i hc
      rcases List.mem_cons.1 h with rfl | h
      · simp at hc
      · exact fiN_some t (k + 1) c h
theorem fi_spec {p : List GClass} {name : List UInt8} {i : Nat} (h : fi p name = some i) : ∃ c, p[i]? = some c ∧ c.fName = name := by
  obtain ⟨_, c, h1, h2⟩ := fiN_spec p 0 name i h
  exact ⟨c, by simpa using h1, h2⟩
theorem fi_lt {p : List GClass} {name : List UInt8} {i : Nat} (h : fi p name = some i) : i < p.length := by
  obtain ⟨c, h1, _⟩ := fi_spec h
  exact (List.getElem?_eq_some_iff.1 h1).1
theorem fi_some {p : List GClass} {c : GClass} (h : c ∈ p) : ∃ i, fi p c.fName = some i := fiN_some p 0 c h
theorem fnd_some {p : List GClass} {name : List UInt8} {i : Nat} (h : fi p name = some i) : fnd p name = (i : Int) := by unfold fnd; rw [h]
theorem fnd_none {p : List GClass} {name : List UInt8} (h : fi p name = none) : fnd p name = -1 := by unfold fnd; rw [h]
/-- What a loop over a list that stops at the first hit comes to. -/
def hit (o : Option Nat) : Ctl Int Unit := match o with | some i => .stop (i : Int) | none => .next ()

theorem indexFunc_L {p : List GClass} (name : List UInt8) (hp : p.length < 9223372036854775806) : ∀ (n k : Nat), n + k = p.length + 1 → k ≤ p.length →
    slices_IndexFunc_api_Class_L1 p (fun (z1 : GClass) => table_Find_1 z1 name) n (k : Int) = some (hit (fiN (p.drop k) k name))
  | 0, k, h, hk => by omega
  | n + 1, k, h, hk => by
    simp only [slices_IndexFunc_api_Class_L1]
    by_cases hlt : k < p.length
    · rw [if_pos (by simpa using hlt), idx_lt hlt, List.drop_eq_getElem_cons hlt]
      simp only [obs, table_Find_1, fiN]
      by_cases hc : (p[k].fName == name) = true
      · rw [if_pos hc, if_pos hc]; rfl
      · rw [if_neg hc, if_neg hc, w64_succ hlt (by omega)]
        exact indexFunc_L name hp n (k + 1) (by omega) (by omega)
    · rw [if_neg (by simpa using hlt), List.drop_eq_nil_of_le (by omega)]
      rfl
theorem table_Find_eq {p : List GClass} (hp : p.length < 9223372036854775806) (name : List UInt8) : table_Find p name = some (fnd p name) := by
  unfold table_Find slices_IndexFunc_api_Class
  have h := indexFunc_L name hp (p.length + 1) 0 (by omega) (by omega)
  rw [show (((p.length : Int) : Int) - (0)).toNat + 1 = p.length + 1 by omega, show (0 : Int) = ((0 : Nat) : Int) from rfl, h]
  simp only [List.drop_zero, obs]
  unfold fnd fi hit
  cases fiN p 0 name <;> rfl

theorem ref13_Find_L {p : List GClass} (name : List UInt8) (hp : p.length < 9223372036854775806) : ∀ (n k : Nat), n + k = p.length + 1 → k ≤ p.length →
    ref13_Find_L1 p name n (k : Int) = some (hit (fiN (p.drop k) k name))
  | 0, k, h, hk => by omega
  | n + 1, k, h, hk => by
    simp only [ref13_Find_L1]
    by_cases hlt : k < p.length
    · rw [if_pos (by simpa using hlt), idx_lt hlt, List.drop_eq_getElem_cons hlt]
      simp only [obs, fiN]
      by_cases hc : (p[k].fName == name) = true
      · rw [if_pos hc, if_pos hc]; rfl
      · rw [if_neg hc, if_neg hc, w64_succ hlt (by omega)]
        exact ref13_Find_L name hp n (k + 1) (by omega) (by omega)
    · rw [if_neg (by simpa using hlt), List.drop_eq_nil_of_le (by omega)]
      rfl
theorem ref13_Find_eq {p : List GClass} (hp : p.length < 9223372036854775806) (name : List UInt8) : ref13_Find p name = some (fnd p name) := by
  unfold ref13_Find
  have h := ref13_Find_L name hp (p.length + 1) 0 (by omega) (by omega)
  rw [show (((p.length : Int) : Int) - (0)).toNat + 1 = p.length + 1 by omega, show (0 : Int) = ((0 : Nat) : Int) from rfl, h]
  simp only [List.drop_zero, obs]
  unfold fnd fi hit
  cases fiN p 0 name <;> rfl

/-! ### The walk up. -/
/-- The class that stands at `i`, its name's super. -/
def sup (p : List GClass) (i : Nat) : List UInt8 := match p[i]? with | some c => c.fSuper | none => []
def upN (p : List GClass) : Nat → List UInt8 → List Nat
  | 0, _ => []
  | n + 1, name => match fi p name with
    | none => []
    | some i => if sup p i == [] then [i] else i :: upN p n (sup p i)
theorem itR_up_n_eq {p : List GClass} (hp : p.length < 9223372036854775806) : ∀ (n : Nat) (name : List UInt8), itR_up_n p n name = some ((upN p n name).map Int.ofNat)
  | 0, name => rfl
  | n + 1, name => by
    simp only [itR_up_n, upN, table_Find_eq hp, obs]
    cases hf : fi p name with
    | none => rw [fnd_none hf]; simp
    | some i =>
      rw [fnd_some hf, if_neg (by omega)]
      obtain ⟨c, hc, _⟩ := fi_spec hf
      have hidx : idx p (i : Int) = some c := by rw [idx_nat]; exact hc
      rw [hidx]
      have hs : sup p i = c.fSuper := by unfold sup; rw [hc]
      simp only [obs, hs]
      by_cases he : (c.fSuper == []) = true
      · rw [if_pos he, if_pos he]; rfl
      · rw [if_neg he, if_neg he, itR_up_n_eq hp n c.fSuper]; rfl
theorem itR_up_eq {p : List GClass} (hp : p.length < 9223372036854775806) (name : List UInt8) : itR_up p name = some ((upN p (p.length + 1) name).map Int.ofNat) := by
  unfold itR_up; rw [if_pos hp, itR_up_n_eq hp]

/-- The chain: up to the first one that comes twice. -/
def chN (p : List GClass) : Nat → List Nat → List UInt8 → List Nat
  | 0, out, _ => out
  | n + 1, out, name => match fi p name with
    | none => out
    | some i => if i ∈ out then out else if sup p i == [] then out ++ [i] else chN p n (out ++ [i]) (sup p i)
def ch (p : List GClass) (name : List UInt8) : List Nat := chN p (p.length + 1) [] name

theorem nodup_len : ∀ (L : Nat) (l : List Nat), l.Nodup → (∀ x ∈ l, x < L) → l.length ≤ L
  | 0, l, _, h => by
    cases l with
    | nil => exact Nat.le_refl _
    | cons x l => have := h x (by simp); omega
  | L + 1, l, hn, h => by
    have h1 := nodup_len L (l.erase L) (hn.erase L) (fun x hx => by
      have := (hn.mem_erase_iff.1 hx)
      have := h x this.2
      omega)
    by_cases hm : L ∈ l
    · have := List.length_erase_of_mem hm; omega
    · rw [List.erase_of_not_mem hm] at h1; omega

/-- What holds on the way up. -/
structure Way (p : List GClass) (out : List Nat) (name : List UInt8) : Prop where
  nd : out.Nodup
  lt : ∀ x ∈ out, x < p.length
  nx : ∀ x ∈ out, sup p x ≠ [] ∧ (sup p x = name ∨ ∃ j, fi p (sup p x) = some j ∧ j ∈ out)
  own : ∀ x ∈ out, ∃ nm, fi p nm = some x

theorem Way.nil (p : List GClass) (name : List UInt8) : Way p [] name := ⟨List.nodup_nil, by simp, by simp, by simp⟩
theorem Way.snoc {p : List GClass} {out : List Nat} {name : List UInt8} {i : Nat} (h : Way p out name) (hf : fi p name = some i) (hi : i ∉ out) (hs : sup p i ≠ []) : Way p (out ++ [i]) (sup p i) := by
  refine ⟨?_, fun x hx => ?_, fun x hx => ?_, fun x hx => ?_⟩
  · refine List.nodup_append.2 ⟨h.nd, by simp, fun a ha b hb => ?_⟩
    simp at hb; subst hb; rintro rfl; exact hi ha
  · rcases List.mem_append.1 hx with hx | hx
    · exact h.lt x hx
    · simp at hx; subst hx; exact fi_lt hf
  · rcases List.mem_append.1 hx with hx | hx
    · obtain ⟨h1, h2⟩ := h.nx x hx
      refine ⟨h1, .inr ?_⟩
      rcases h2 with h2 | ⟨j, h2, h3⟩
      · exact ⟨i, by rw [h2]; exact hf, by simp⟩
      · exact ⟨j, h2, by simp [h3]⟩
    · simp at hx; subst hx; exact ⟨hs, .inl rfl⟩
  · rcases List.mem_append.1 hx with hx | hx
    · exact h.own x hx
    · simp at hx; subst hx; exact ⟨name, hf⟩

/-- A set of classes that one does not leave upwards. -/
def Shut (p : List GClass) (S : List Nat) : Prop := ∀ x ∈ S, sup p x ≠ [] → ∀ j, fi p (sup p x) = some j → j ∈ S
theorem upN_shut {p : List GClass} {S : List Nat} (h : Shut p S) : ∀ (n : Nat) (name : List UInt8), (∀ j, fi p name = some j → j ∈ S) → ∀ x ∈ upN p n name, x ∈ S
  | 0, name, _, x, hx => by simp [upN] at hx
  | n + 1, name, hs, x, hx => by
    simp only [upN] at hx
    cases hf : fi p name with
    | none => rw [hf] at hx; simp at hx
    | some i =>
      rw [hf] at hx
      have hi := hs i hf
      simp only at hx
      split at hx
      · simp at hx; subst hx; exact hi
      · rename_i he
        rcases List.mem_cons.1 hx with rfl | hx
        · exact hi
        · exact upN_shut h n _ (fun j hj => h i hi (by simpa using he) j hj) x hx
/-- .. where each has one above it: the walk never ends. -/
theorem upN_round {p : List GClass} {S : List Nat} (h : ∀ x ∈ S, sup p x ≠ [] ∧ ∃ j, fi p (sup p x) = some j ∧ j ∈ S) : ∀ (n : Nat) (name : List UInt8) (i : Nat), fi p name = some i → i ∈ S → (upN p n name).length = n
  | 0, name, i, _, _ => rfl
  | n + 1, name, i, hf, hi => by
    obtain ⟨h1, j, h2, h3⟩ := h i hi
    simp only [upN, hf]
    rw [if_neg (by simpa using h1)]
    simp [upN_round h n _ j h2 h3]

/-- Did the chain end because one came twice? -/
def back (p : List GClass) (l : List Nat) : Bool := match l.getLast? with
  | none => false
  | some i => !(sup p i == []) && (match fi p (sup p i) with | some j => decide (j ∈ l) | none => false)

/-- **The walk and the chain.** -/
theorem upN_chN {p : List GClass} : ∀ (n : Nat) (out : List Nat) (name : List UInt8), n + out.length = p.length + 1 → Way p out name → (out = [] ∨ ∃ x, out.getLast? = some x ∧ sup p x = name) →
    ∃ R, out ++ upN p n name = chN p n out name ++ R ∧ (∀ x ∈ R, x ∈ chN p n out name) ∧ (∀ x ∈ out, x ∈ chN p n out name) ∧ (∀ j, fi p name = some j → j ∈ chN p n out name) ∧ Shut p (chN p n out name) ∧ (chN p n out name).Nodup ∧ (∀ x ∈ chN p n out name, x < p.length ∧ ∃ nm, fi p nm = some x) ∧
      (back p (chN p n out name) = decide ((upN p n name).length = n))
  | 0, out, name, hn, hw, hl => by
    exfalso
    have := nodup_len p.length out hw.nd hw.lt
    omega
  | n + 1, out, name, hn, hw, hl => by
    have hlen := nodup_len p.length out hw.nd hw.lt
    cases hf : fi p name with
    | none =>
      simp only [upN, chN, hf]
      refine ⟨[], by simp, by simp, fun x hx => hx, by simp, fun x hx hne j hj => ?_, hw.nd, fun x hx => ⟨hw.lt x hx, hw.own x hx⟩, ?_⟩
      · rcases (hw.nx x hx).2 with h1 | ⟨j', h1, h2⟩
        · rw [h1, hf] at hj; cases hj
        · rw [h1] at hj; cases hj; exact h2
      · have : back p out = false := by
          unfold back
          rcases hl with rfl | ⟨x, h1, h2⟩
          · rfl
          · rw [h1]; simp only [h2, hf, Bool.and_false]
        rw [this]; simp
    | some i =>
      simp only [upN, chN, hf]
      by_cases hi : i ∈ out
      · rw [if_pos hi]
        have hround : ∀ x ∈ out, sup p x ≠ [] ∧ ∃ j, fi p (sup p x) = some j ∧ j ∈ out := by
          intro x hx
          obtain ⟨h1, h2⟩ := hw.nx x hx
          refine ⟨h1, ?_⟩
          rcases h2 with h2 | h2
          · exact ⟨i, by rw [h2]; exact hf, hi⟩
          · exact h2
        have hshut : Shut p out := fun x hx _ j hj => by
          obtain ⟨_, j', h1, h2⟩ := hround x hx
          rw [h1] at hj; cases hj; exact h2
        have hsub := upN_shut hshut (n + 1) name (fun j hj => by rw [hf] at hj; cases hj; exact hi)
        have hfull := upN_round hround (n + 1) name i hf hi
        simp only [upN, hf] at hsub hfull
        refine ⟨_, rfl, hsub, fun x hx => hx, fun j hj => by cases hj; exact hi, hshut, hw.nd, fun x hx => ⟨hw.lt x hx, hw.own x hx⟩, ?_⟩
        rw [hfull]
        have : back p out = true := by
          unfold back
          rcases hl with rfl | ⟨x, h1, h2⟩
          · simp at hi
          · have hx : x ∈ out := List.mem_of_getLast? h1
            rw [h1]
            simp only [h2, hf, hi, decide_true, Bool.and_true]
            have := (hw.nx x hx).1
            rw [h2] at this
            simpa using this
        rw [this]; simp
      · rw [if_neg hi]
        by_cases hs : (sup p i == []) = true
        · rw [if_pos hs, if_pos hs]
          have hs' : sup p i = [] := by simpa using hs
          have hw2 : (out ++ [i]).Nodup := List.nodup_append.2 ⟨hw.nd, by simp, fun a ha b hb => by
            simp at hb; subst hb; rintro rfl; exact hi ha⟩
          have hlt2 : ∀ x ∈ out ++ [i], x < p.length := fun x hx => by
            rcases List.mem_append.1 hx with hx | hx
            · exact hw.lt x hx
            · simp at hx; subst hx; exact fi_lt hf
          have hlen2 := nodup_len p.length _ hw2 hlt2
          refine ⟨[], by simp, by simp, fun x hx => by simp [hx], fun j hj => by cases hj; simp, fun x hx hne j hj => ?_, hw2, fun x hx => ⟨hlt2 x hx, ?_⟩, ?_⟩
          · rcases List.mem_append.1 hx with hx | hx
            · rcases (hw.nx x hx).2 with h1 | ⟨j', h1, h2⟩
              · rw [h1, hf] at hj; cases hj; simp
              · rw [h1] at hj; cases hj; simp [h2]
            · simp at hx; subst hx; exact absurd hs' hne
          · rcases List.mem_append.1 hx with hx | hx
            · exact hw.own x hx
            · simp at hx; subst hx; exact ⟨name, hf⟩
          · have : back p (out ++ [i]) = false := by
              unfold back; simp [hs']
            rw [this]
            simp at hlen2
            simp; omega
        · rw [if_neg hs, if_neg hs]
          have hs' : sup p i ≠ [] := by simpa using hs
          obtain ⟨R, k1, k2, k3, k4, k5, k6, k7, k8⟩ := upN_chN n (out ++ [i]) (sup p i) (by simp; omega) (hw.snoc hf hi hs') (.inr ⟨i, by simp, rfl⟩)
          refine ⟨R, by rw [← k1]; simp, k2, fun x hx => k3 x (by simp [hx]), fun j hj => by cases hj; exact k3 i (by simp), k5, k6, k7, ?_⟩
          rw [k8]; simp
/-- The facts about a name's chain. -/
theorem ch_facts (p : List GClass) (name : List UInt8) : ∃ R, upN p (p.length + 1) name = ch p name ++ R ∧ (∀ x ∈ R, x ∈ ch p name) ∧ (∀ j, fi p name = some j → j ∈ ch p name) ∧ Shut p (ch p name) ∧ (ch p name).Nodup ∧ (∀ x ∈ ch p name, x < p.length ∧ ∃ nm, fi p nm = some x) ∧
    (back p (ch p name) = decide ((upN p (p.length + 1) name).length = p.length + 1)) := by
  obtain ⟨R, k1, k2, k3, k4, k5, k6, k7, k8⟩ := upN_chN (p.length + 1) [] name (by simp) (Way.nil p name) (.inl rfl)
  exact ⟨R, by unfold ch; simpa using k1, k2, k4, k5, k6, k7, k8⟩
theorem mem_up {p : List GClass} {name : List UInt8} {x : Nat} : x ∈ upN p (p.length + 1) name ↔ x ∈ ch p name := by
  obtain ⟨R, k1, k2, _⟩ := ch_facts p name
  rw [k1]
  constructor
  · intro h
    rcases List.mem_append.1 h with h | h
    · exact h
    · exact k2 x h
  · intro h; simp [h]

/-! ### Chains, by the program and by the document. -/
theorem idxI_L {l : List Int} (a : Int) (hp : l.length < 9223372036854775806) : ∀ (n k : Nat), n + k = l.length + 1 → k ≤ l.length →
    ∃ r, slices_Index_int_L1 l a n (k : Int) = some r ∧ ((∃ v : Int, r = .stop v ∧ 0 ≤ v ∧ a ∈ l.drop k) ∨ (r = .next () ∧ a ∉ l.drop k))
  | 0, k, h, hk => by omega
  | n + 1, k, h, hk => by
    simp only [slices_Index_int_L1]
    by_cases hlt : k < l.length
    · rw [if_pos (by simpa using hlt), idx_lt hlt, List.drop_eq_getElem_cons hlt]
      simp only [obs]
      by_cases hc : (a == l[k]) = true
      · rw [if_pos hc]
        have hc' : a = l[k] := by simpa using hc
        exact ⟨_, rfl, .inl ⟨_, rfl, by omega, by rw [hc']; exact List.mem_cons_self⟩⟩
      · rw [if_neg hc, w64_succ hlt (by omega)]
        obtain ⟨r, h1, h2⟩ := idxI_L a hp n (k + 1) (by omega) (by omega)
        refine ⟨r, h1, ?_⟩
        have hne : a ≠ l[k] := by simpa using hc
        rcases h2 with ⟨v, h3, h4, h5⟩ | ⟨h3, h4⟩
        · exact .inl ⟨v, h3, h4, List.mem_cons_of_mem _ h5⟩
        · exact .inr ⟨h3, fun hm => (List.mem_cons.1 hm).elim hne h4⟩
    · rw [if_neg (by simpa using hlt), List.drop_eq_nil_of_le (by omega)]
      exact ⟨_, rfl, .inr ⟨rfl, by simp⟩⟩
theorem contains_eq {l : List Int} (hp : l.length < 9223372036854775806) (a : Int) : slices_Contains_int l a = some (decide (a ∈ l)) := by
  unfold slices_Contains_int slices_Index_int
  obtain ⟨r, h1, h2⟩ := idxI_L a hp (l.length + 1) 0 (by omega) (by omega)
  rw [show (((l.length : Int) : Int) - (0)).toNat + 1 = l.length + 1 by omega, show (0 : Int) = ((0 : Nat) : Int) from rfl, h1]
  rcases h2 with ⟨v, rfl, h3, h4⟩ | ⟨rfl, h4⟩
  · simp only [obs, Ctl.elim]
    simp only [List.drop_zero] at h4
    simp [h4, h3]
  · simp only [obs, Ctl.elim]
    simp only [List.drop_zero] at h4
    simp [h4]
theorem mem_cast {i : Nat} {l : List Nat} : ((i : Int) ∈ l.map Int.ofNat) ↔ i ∈ l := by
  rw [List.mem_map]
  constructor
  · rintro ⟨j, h1, h2⟩
    have : j = i := Int.ofNat.inj h2
    exact this ▸ h1
  · intro h; exact ⟨i, h, rfl⟩

theorem chain_runs {p : List GClass} (hp : p.length ≤ 1000000) : ∀ (n : Nat) (out : List Nat) (name : List UInt8), n + out.length = p.length + 1 →
    ∃ r, runs above_Chain_B1 ((upN p n name).map Int.ofNat) (out.map Int.ofNat) = some r ∧ Ctl.elim r (fun x => x) (fun x => x) = (chN p n out name).map Int.ofNat
  | 0, out, name, _ => ⟨_, rfl, rfl⟩
  | n + 1, out, name, hn => by
    have hout : (out.map Int.ofNat).length < 9223372036854775806 := by simp; omega
    have hroom : room (((out.map Int.ofNat).length : Int) + (([(0 : Int)].length : Nat) : Int)) 8 = some () := room_ok (by simp; omega)
    simp only [upN, chN]
    cases hf : fi p name with
    | none => exact ⟨_, rfl, rfl⟩
    | some i =>
      simp only
      have hstep : ∀ rest, runs above_Chain_B1 (((i : Nat) :: rest).map Int.ofNat) (out.map Int.ofNat) = if i ∈ out then some (.stop (out.map Int.ofNat)) else runs above_Chain_B1 (rest.map Int.ofNat) ((out ++ [i]).map Int.ofNat) := by
        intro rest
        simp only [List.map_cons, runs, above_Chain_B1]
        rw [contains_eq hout]
        simp only [obs]
        by_cases hi : i ∈ out
        · have : Int.ofNat i ∈ out.map Int.ofNat := mem_cast.2 hi
          rw [if_pos hi, if_pos (by simpa using this)]
          rfl
        · have hni : ¬ Int.ofNat i ∈ out.map Int.ofNat := fun h => hi (mem_cast.1 h)
          rw [if_neg hi, if_neg (by simpa using hni)]
          rw [show (([Int.ofNat i].length : Nat) : Int) = (([(0 : Int)].length : Nat) : Int) from rfl, hroom]
          simp [obs, Ctl.elim]
      by_cases hi : i ∈ out
      · rw [if_pos hi]
        split
        · rw [hstep, if_pos hi]; exact ⟨_, rfl, rfl⟩
        · rw [hstep, if_pos hi]; exact ⟨_, rfl, rfl⟩
      · rw [if_neg hi]
        by_cases hs : (sup p i == []) = true
        · rw [if_pos hs, if_pos hs, hstep, if_neg hi]
          exact ⟨_, rfl, rfl⟩
        · rw [if_neg hs, if_neg hs, hstep, if_neg hi]
          exact chain_runs hp n (out ++ [i]) (sup p i) (by simp; omega)
theorem above_Chain_eq {p : List GClass} (hp : p.length ≤ 1000000) (name : List UInt8) : above_Chain p name = some ((ch p name).map Int.ofNat) := by
  unfold above_Chain above_up
  simp only [obs]
  rw [itR_up_eq (by omega)]
  simp only [obs]
  obtain ⟨r, h1, h2⟩ := chain_runs hp (p.length + 1) [] name (by simp)
  rw [show ([] : List Int) = ([] : List Nat).map Int.ofNat from rfl, h1]
  unfold ch
  rw [← h2]
  cases r <;> rfl
theorem ch_len (p : List GClass) (name : List UInt8) : (ch p name).length ≤ p.length := by
  obtain ⟨_, _, _, _, _, k6, k7, _⟩ := ch_facts p name
  exact nodup_len _ _ k6 (fun x hx => (k7 x hx).1)
theorem ch_ne {p : List GClass} {name : List UInt8} {i : Nat} (h : fi p name = some i) : ch p name ≠ [] := by
  obtain ⟨_, _, _, k4, _⟩ := ch_facts p name
  intro e
  have := k4 i h
  rw [e] at this; simp at this

theorem has_L {l : List Int} (a : Int) (hp : l.length < 9223372036854775806) : ∀ (n k : Nat), n + k = l.length + 1 → k ≤ l.length →
    ref14_has_L1 l a n (k : Int) = some (if a ∈ l.drop k then .stop true else .next ())
  | 0, k, h, hk => by omega
  | n + 1, k, h, hk => by
    simp only [ref14_has_L1]
    by_cases hlt : k < l.length
    · rw [if_pos (by simpa using hlt), idx_lt hlt, List.drop_eq_getElem_cons hlt]
      simp only [obs]
      by_cases hc : (l[k] == a) = true
      · rw [if_pos hc]
        simp at hc
        rw [if_pos (by rw [← hc]; exact List.mem_cons_self)]
      · rw [if_neg hc, w64_succ hlt (by omega), has_L a hp n (k + 1) (by omega) (by omega)]
        have hne : a ≠ l[k] := fun e => hc (by simp [e])
        have e : (a ∈ l[k] :: l.drop (k + 1)) ↔ a ∈ l.drop (k + 1) := ⟨fun hm => (List.mem_cons.1 hm).resolve_left hne, List.mem_cons_of_mem _⟩
        simp only [e]
    · rw [if_neg (by simpa using hlt), List.drop_eq_nil_of_le (by omega)]
      simp
theorem has_eq {l : List Int} (hp : l.length < 9223372036854775806) (a : Int) : ref14_has l a = some (decide (a ∈ l)) := by
  unfold ref14_has
  have h := has_L a hp (l.length + 1) 0 (by omega) (by omega)
  rw [show (((l.length : Int) : Int) - (0)).toNat + 1 = l.length + 1 by omega, show (0 : Int) = ((0 : Nat) : Int) from rfl, h]
  simp only [obs, List.drop_zero]
  by_cases hm : a ∈ l
  · simp [hm, Ctl.elim]
  · simp [hm, Ctl.elim]

theorem refChain_L {p : List GClass} (hp : p.length ≤ 1000000) : ∀ (n : Nat) (out : List Nat) (name : List UInt8), n + out.length = p.length + 1 → Way p out name →
    ∃ r, ref14_Chain_L1 p (n + 1) (out.map Int.ofNat) (fnd p name) = some r ∧ Ctl.elim r (fun x => x) (fun x => x) = (chN p n out name).map Int.ofNat
  | 0, out, name, hn, hw => by
    exfalso
    have := nodup_len p.length out hw.nd hw.lt
    omega
  | n + 1, out, name, hn, hw => by
    have hout : (out.map Int.ofNat).length < 9223372036854775806 := by simp; omega
    have hroom : ∀ z : Int, room (((out.map Int.ofNat).length : Int) + (([z].length : Nat) : Int)) 8 = some () := fun z => room_ok (by simp; omega)
    simp only [ref14_Chain_L1]
    cases hf : fi p name with
    | none =>
      rw [fnd_none hf]
      refine ⟨.next (out.map Int.ofNat), rfl, ?_⟩
      simp [chN, hf, Ctl.elim]
    | some i =>
      rw [fnd_some hf, has_eq hout]
      obtain ⟨c, hc, _⟩ := fi_spec hf
      have hidx : idx p (i : Int) = some c := by rw [idx_nat]; exact hc
      have hsup : sup p i = c.fSuper := by unfold sup; rw [hc]
      have hd : decide ((i : Int) ≥ 0) = true := by simp
      rw [if_pos hd]
      simp only [chN, hf, obs, hroom, hidx]
      by_cases hi : i ∈ out
      · rw [if_neg (by simpa using mem_cast.2 hi), if_pos hi]
        exact ⟨_, rfl, rfl⟩
      · have hni : ¬ (i : Int) ∈ out.map Int.ofNat := fun h => hi (mem_cast.1 h)
        rw [if_pos (by simpa using hni), if_neg hi]
        have hcat : out.map Int.ofNat ++ [(i : Int)] = (out ++ [i]).map Int.ofNat := by simp
        rw [hcat, hsup]
        by_cases hs : (c.fSuper == []) = true
        · rw [if_pos hs, if_pos hs]
          exact ⟨_, rfl, rfl⟩
        · rw [if_neg hs, if_neg hs, ref13_Find_eq (by omega)]
          simp only [obs]
          have hs' : sup p i ≠ [] := by rw [hsup]; simpa using hs
          have := refChain_L hp n (out ++ [i]) (sup p i) (by simp; omega) (hw.snoc hf hi hs')
          rw [hsup] at this
          exact this
theorem ref_Chain_eq {p : List GClass} (hp : p.length ≤ 1000000) (name : List UInt8) : ref14_Chain p name = some ((ch p name).map Int.ofNat) := by
  unfold ref14_Chain
  rw [ref13_Find_eq (by omega)]
  obtain ⟨r, h1, h2⟩ := refChain_L hp (p.length + 1) [] name (by simp) (Way.nil p name)
  simp only [obs]
  rw [show p.length + 2 = p.length + 1 + 1 from rfl, show ([] : List Int) = ([] : List Nat).map Int.ofNat from rfl, h1]
  unfold ch
  rw [← h2]
  cases r <;> rfl

/-! ### Below, and where two meet. -/
theorem below_runs (y : Int) : ∀ (l : List Int), ∃ r, runs (above_Below_B1 y) l () = some r ∧ ((r = .stop () ∧ y ∈ l) ∨ (r = .next () ∧ y ∉ l))
  | [] => ⟨_, rfl, .inr ⟨rfl, by simp⟩⟩
  | x :: l => by
    simp only [runs, above_Below_B1]
    by_cases hc : (x == y) = true
    · rw [if_pos hc]
      have hc' : x = y := by simpa using hc
      exact ⟨_, rfl, .inl ⟨rfl, by rw [hc']; exact List.mem_cons_self⟩⟩
    · rw [if_neg hc]
      have hne : y ≠ x := fun e => hc (by simp [e])
      obtain ⟨r, h1, h2⟩ := below_runs y l
      refine ⟨r, h1, ?_⟩
      rcases h2 with ⟨h3, h4⟩ | ⟨h3, h4⟩
      · exact .inl ⟨h3, List.mem_cons_of_mem _ h4⟩
      · exact .inr ⟨h3, fun hm => (List.mem_cons.1 hm).elim hne h4⟩
/-- Is class `b` at or above class `a`? -/
def bel (p : List GClass) (a b : List UInt8) : Bool := match fi p b with | some j => decide (j ∈ ch p a) | none => false
theorem fnd_mem {p : List GClass} {b : List UInt8} (l : List Nat) : decide (fnd p b ∈ l.map Int.ofNat) = match fi p b with | some j => decide (j ∈ l) | none => false := by
  cases hf : fi p b with
  | none =>
    rw [fnd_none hf]
    simp only [decide_eq_false_iff_not]
    intro h
    obtain ⟨j, _, hj⟩ := List.mem_map.1 h
    have : (0 : Int) ≤ Int.ofNat j := Int.natCast_nonneg j
    omega
  | some j =>
    rw [fnd_some hf]
    simp only [mem_cast]
theorem above_Below_eq {p : List GClass} (hp : p.length ≤ 1000000) (a b : List UInt8) : above_Below p a b = some (bel p a b) := by
  unfold above_Below above_up
  rw [table_Find_eq (by omega)]
  simp only [obs, itR_up_eq (p := p) (by omega)]
  obtain ⟨r, h1, h2⟩ := below_runs (fnd p b) ((upN p (p.length + 1) a).map Int.ofNat)
  rw [h1]
  have hb : bel p a b = decide (fnd p b ∈ (upN p (p.length + 1) a).map Int.ofNat) := by
    rw [fnd_mem]
    unfold bel
    cases fi p b with
    | none => rfl
    | some j => simp only [mem_up]
  rcases h2 with ⟨rfl, h3⟩ | ⟨rfl, h3⟩
  · rw [hb, decide_eq_true h3]; rfl
  · rw [hb, decide_eq_false h3]; rfl

theorem ref_Below_eq {p : List GClass} (hp : p.length ≤ 1000000) (a b : List UInt8) : ref14_Below p a b = some (bel p a b) := by
  unfold ref14_Below
  rw [ref13_Find_eq (by omega)]
  have hcl : ((ch p a).map Int.ofNat).length < 9223372036854775806 := by have := ch_len p a; simp; omega
  simp only [obs, ref_Chain_eq hp, has_eq hcl, fnd_mem]
  unfold bel
  cases hf : fi p b with
  | none => rw [fnd_none hf]; rfl
  | some j => rw [fnd_some hf, if_pos (by simp)]

/-! ### Owners, put. -/
theorem bGOwner_eq (a b : GOwner) : bGOwner a b = decide (a = b) := by
  rw [Bool.eq_iff_iff]; cases a; cases b; simp [bGOwner]
theorem bGOwner_refl (a : GOwner) : bGOwner a a = true := by simp [bGOwner]
def putAt (l : List GOwner) (n : Int) : GOwner := match idx l n with | some y => y | none => ⟨8, 0⟩
def putS (a : GOwner) (l : List GOwner) : GOwner := if a.fKind = 3 then putAt l a.fN else if a.fKind = 2 then putAt l 0 else a
theorem owner_Put_eq (a : GOwner) (l : List GOwner) : owner_Put a l = some (putS a l) := by
  have key : ∀ n : Int, (Option.bind (if (decide (n < 0)) = true then some true else some (decide (n ≥ (l.length : Int))) : Option Bool) fun x5 =>
      if x5 = true then some ({ fKind := 8, fN := 0 } : GOwner) else Option.bind (idx l n) fun (y9 : GOwner) => some y9) = some (putAt l n) := by
    intro n
    by_cases h0 : n < 0
    · simp [h0, putAt, idx_neg h0]
    · by_cases h1 : n ≥ (l.length : Int)
      · simp [h0, h1, putAt, idx_ge h1]
      · have := idx_in (l := l) (n := n) (by omega) (by omega)
        simp [h0, h1, putAt, this]
  unfold owner_Put putS
  by_cases h3 : a.fKind = 3
  · simp only [h3, if_true, beq_self_eq_true, Ctl.go]; exact key _
  · by_cases h2 : a.fKind = 2
    · simp [h2, Ctl.go]; simpa using key 0
    · simp [h3, h2, Ctl.go]

theorem ref04_Put_L1_eq (l : List GOwner) (x : Int) (hl : l.length ≤ 9223372036854775807) : ∀ (n k : Nat), k ≤ l.length → l.length - k < n →
    ref04_Put_L1 l x n (k : Int) = some (match (if (k : Int) ≤ x then idx l x else none) with | some y => .stop y | none => .next ()) := by
  intro n
  induction n with
  | zero => intro k _ h; omega
  | succ n ih =>
    intro k hk hn
    unfold ref04_Put_L1
    by_cases h : (k : Int) < (l.length : Int)
    · have hk' : k < l.length := by omega
      simp only [h, decide_true, if_true]
      by_cases hx : (k : Int) = x
      · subst hx
        simp [idx_lt hk']
      · have hx' : ((k : Int) == x) = false := by simpa using hx
        simp only [hx', Bool.false_eq_true, if_false]
        rw [w64_succ hk' hl, ih (k + 1) (by omega) (by omega)]
        congr 2
        by_cases h1 : (k : Int) ≤ x
        · rw [if_pos h1, if_pos (by omega)]
        · rw [if_neg h1, if_neg (by omega)]
    · have hk' : k = l.length := by omega
      simp only [h, decide_false, Bool.false_eq_true, if_false]
      by_cases h1 : (k : Int) ≤ x
      · rw [if_pos h1, idx_ge (by omega)]
      · rw [if_neg h1]
theorem ref04_Put_eq (a : GOwner) (l : List GOwner) (hl : l.length ≤ 9223372036854775807) : ref04_Put a l = some (putS a l) := by
  have key : ∀ x : Int, (Option.bind (ref04_Put_L1 l x ((((l.length : Int)) - (0)).toNat + 1) 0) fun lr29 =>
    Ctl.elim lr29 (fun v => some v) fun _ =>
    some ({ fKind := 8, fN := 0 } : GOwner)) = some (putAt l x) := by
    intro x
    have := ref04_Put_L1_eq l x hl ((((l.length : Int)) - (0)).toNat + 1) 0 (by omega) (by omega)
    rw [show ((0 : Nat) : Int) = 0 from rfl] at this
    rw [this]
    unfold putAt
    by_cases h : (0 : Int) ≤ x
    · rw [if_pos h]
      cases idx l x <;> rfl
    · rw [if_neg h, idx_neg (by omega)]; rfl
  unfold ref04_Put putS
  by_cases h3 : a.fKind = 3
  · simp [h3]; simpa using key a.fN
  · by_cases h2 : a.fKind = 2
    · simp [h2]; simpa using key 0
    · simp [h3, h2]

theorem ref04_All_eq (l m : List GOwner) (hl : l.length ≤ 1000) (hm : m.length ≤ 9223372036854775807) : ref04_All l m = some (l.map (putS · m)) := by
  unfold ref04_All
  rw [foldL (ref04_All_L1 l m) (l := l) (by omega) (f := fun s y => Option.bind (ref04_Put y m) fun y40 => Option.bind (room ((s.length : Int) + ([y40].length : Int)) 16) fun _ => some (s ++ [y40])) (fin := some) (fun n s x => by
    rw [ref04_All_L1]
    by_cases h : decide (x < (l.length : Int)) = true
    · rw [if_pos h, if_pos h]
      cases idx l x with
      | none => rfl
      | some y =>
        rw [obs, obs]
        cases ref04_Put y m with
        | none => rfl
        | some z => rw [obs, obs]; cases room ((s.length : Int) + ([z].length : Int)) 16 <;> rfl
    · rw [if_neg h, if_neg h]), foldO_room _ (putS · m) 1000 (fun s y hs => by
    rw [ref04_Put_eq y m hm, obs, List.length_singleton, room1 (by omega) (by omega) (by omega), obs]) l [] (by simpa using hl)]
  simp

/-! ### The owners of a type. -/
/-- How many owners stand behind the class. -/
def cnt3 (n : Int) : Nat := if n ≤ 0 then 0 else if 3 ≤ n then 3 else n.toNat
theorem cnt3_le (n : Int) : cnt3 n ≤ 3 := by unfold cnt3; split; omega; split; omega; omega
theorem cnt3_ite (n : Int) : (if (if 3 < n then 3 else n) > 0 then (if 3 < n then 3 else n) else 0) = ((cnt3 n : Nat) : Int) := by
  unfold cnt3
  by_cases h : n ≤ 0
  · rw [if_neg (show ¬ 3 < n by omega), if_neg (show ¬ n > 0 by omega), if_pos h]; rfl
  · by_cases h3 : 3 ≤ n
    · by_cases h4 : 3 < n
      · simp only [if_pos h4, if_neg h, if_pos h3]; omega
      · simp only [if_neg h4, if_neg h, if_pos h3]; rw [if_pos (by omega)]; omega
    · simp only [if_neg (show ¬ 3 < n by omega), if_neg h, if_neg h3]; rw [if_pos (by omega)]; omega
def own (t : GType) : List GOwner := if t.fKind = 2 then t.fOwn.l.take (cnt3 t.fN + 1) else []
theorem A4_len {α : Type} (x : A4 α) : x.l.length = 4 := rfl
theorem own_len {t : GType} (h : t.fKind = 2) : (own t).length = cnt3 t.fN + 1 := by
  unfold own; rw [if_pos h, List.length_take, A4_len]; have := cnt3_le t.fN; omega
theorem own_le (t : GType) : (own t).length ≤ 4 := by
  unfold own; split
  · rw [List.length_take, A4_len]; omega
  · simp
theorem kind_own_eq (t : GType) : kind_own t = some (t.fOwn.l.take (cnt3 t.fN + 1)) := by
  unfold kind_own
  have := cnt3_le t.fN
  rw [cnt3_ite, w64 (by omega) (by omega), show ((cnt3 t.fN : Nat) : Int) + 1 = ((cnt3 t.fN + 1 : Nat) : Int) by omega]
  unfold cutL
  rw [if_pos ⟨by omega, by omega, by rw [A4_len]; omega⟩]
  simp
theorem kind_Owners_eq (t : GType) : kind_Owners t = some (own t) := by
  unfold kind_Owners own
  by_cases h : t.fKind = 2
  · rw [if_neg (by simp [h]), if_pos h, kind_own_eq, obs]
    unfold slices_Clone_api_Owner
    rw [room_ok (by rw [List.length_take, A4_len]; simp; omega)]
    rfl
  · rw [if_pos (by simpa using h), if_neg h]

theorem ref05_Owners_L {t : GType} (h : t.fKind = 2) : ∀ (n k : Nat), n + k = 6 → k ≤ cnt3 t.fN + 1 → ref05_Owners_L1 t n (t.fOwn.l.take k) (k : Int) = some (own t)
  | 0, k, hn, hk => by have := cnt3_le t.fN; omega
  | n + 1, k, hn, hk => by
    have hc := cnt3_le t.fN
    rw [ref05_Owners_L1]
    unfold ref05_count
    rw [cnt3_ite, obs]
    by_cases hlt : k ≤ cnt3 t.fN
    · rw [if_pos (by simpa using hlt), obs, if_pos (by simpa using h), idx_lt (by rw [A4_len]; omega), obs]
      rw [room_ok (by rw [List.length_take, List.length_singleton]; have := A4_len t.fOwn; omega), obs, w64 (by omega) (by omega), show ((k : Nat) : Int) + 1 = ((k + 1 : Nat) : Int) by omega]
      rw [← List.take_succ_eq_append_getElem (by rw [A4_len]; omega)]
      exact ref05_Owners_L h n (k + 1) (by omega) (by omega)
    · rw [if_neg (by simpa using hlt), obs, if_neg (by simp)]
      have : k = cnt3 t.fN + 1 := by omega
      unfold own
      rw [if_pos h, this]
theorem ref05_Owners_eq (t : GType) : ref05_Owners t = some (own t) := by
  unfold ref05_Owners
  by_cases h : t.fKind = 2
  · have := ref05_Owners_L h 6 0 (by omega) (by omega)
    rw [show ((0 : Nat) : Int) = 0 from rfl, List.take_zero] at this
    rw [this]; rfl
  · rw [ref05_Owners_L1]
    have hk : (t.fKind == 2) = false := by simpa using h
    unfold ref05_count own
    rw [cnt3_ite, obs, if_neg h, if_pos (by simp), obs, hk, if_neg (by simp)]
    rfl

/-! ### Can an owner be told? -/
theorem under_of_1_eq (o : GOwner) (l : List Int) (hl : l.length < 9223372036854775806) : under_of_1 o l = some (decide (o.fKind ∈ l)) := by
  unfold under_of_1; rw [contains_eq hl, obs]
theorem cf_owner {l : List GOwner} (hp : l.length ≤ 9223372036854775807) {q : GOwner → Option Bool} {b : GOwner → Bool} (hq : ∀ y, q y = some (b y)) : slices_ContainsFunc_api_Owner l q = some (l.any b) := by
  unfold slices_ContainsFunc_api_Owner slices_IndexFunc_api_Owner
  rw [findL (slices_IndexFunc_api_Owner_L1 l q) (b := b) hp (fun n x => by rw [slices_IndexFunc_api_Owner_L1]; simp only [hq, obs]), obs, find_any, obs, idx_any]
def dimS (l : List GOwner) : Bool := l.any (fun o => decide (o.fKind ∈ [8, 7])) || (l.drop 1).any (fun o => decide (o.fKind ∈ [(5 : Int)]))
theorem under_dim_eq (t : GType) : under_dim t = some (dimS (own t)) := by
  unfold under_dim under_of
  have hl := own_le t
  rw [kind_Owners_eq, obs, obs, cf_owner (by omega) (fun y => under_of_1_eq y [8, 7] (by simp)), obs]
  unfold dimS
  by_cases h : (own t).any (fun o => decide (o.fKind ∈ [8, 7])) = true
  · rw [if_pos h, h]; rfl
  · rw [if_neg h]
    simp only [Bool.not_eq_true] at h
    rw [h, Bool.false_or]
    by_cases h1 : (own t).length > 1
    · rw [if_pos (by simp; omega)]
      have : cutL (own t) 1 (own t).length = some ((own t).drop 1) := by unfold cutL; rw [if_pos ⟨by omega, by omega, by omega⟩]; simp
      rw [this, obs, obs, cf_owner (by simp; omega) (fun y => under_of_1_eq y [5] (by simp)), obs]
    · rw [if_neg (by simp; omega), List.drop_eq_nil_of_le (by omega)]; rfl

theorem dimS_range (l : List GOwner) : dimS l = (List.range l.length).any (fun k => match l[k]? with | some o => decide (o.fKind = 8) || (decide (o.fKind = 7) || (decide (0 < k) && decide (o.fKind = 5))) | none => false) := by
  rw [Bool.eq_iff_iff]
  unfold dimS
  simp only [Bool.or_eq_true, List.any_eq_true, List.mem_range, decide_eq_true_eq, List.mem_cons, List.not_mem_nil, or_false]
  constructor
  · rintro (⟨o, ho, h⟩ | ⟨o, ho, h⟩)
    · obtain ⟨k, hk, rfl⟩ := List.getElem_of_mem ho
      refine ⟨k, hk, ?_⟩
      rw [List.getElem?_eq_getElem hk]
      simp only [Bool.or_eq_true, decide_eq_true_eq]
      rcases h with h | h
      · exact .inl h
      · exact .inr (.inl h)
    · obtain ⟨k, hk, rfl⟩ := List.getElem_of_mem ho
      rw [List.getElem_drop] at h
      simp only [List.length_drop] at hk
      refine ⟨1 + k, by omega, ?_⟩
      rw [List.getElem?_eq_getElem (by omega)]
      have : 0 < 1 + k := by omega
      simp [h, this]
  · rintro ⟨k, hk, h⟩
    rw [List.getElem?_eq_getElem hk] at h
    simp only [Bool.or_eq_true, Bool.and_eq_true, decide_eq_true_eq] at h
    rcases h with h | h | ⟨h0, h⟩
    · exact .inl ⟨_, List.getElem_mem hk, .inl h⟩
    · exact .inl ⟨_, List.getElem_mem hk, .inr h⟩
    · refine .inr ⟨l[k], ?_, h⟩
      rw [List.mem_iff_getElem]
      refine ⟨k - 1, by simp; omega, ?_⟩
      rw [List.getElem_drop]
      congr 1; omega
theorem ref27_dim_eq (t : GType) : ref27_dim t = some (dimS (own t)) := by
  unfold ref27_dim
  have hl := own_le t
  rw [ref05_Owners_eq, obs, anyI (ref27_dim_L1 (own t)) (r := true) (b := fun k => match (own t)[k]? with | some o => decide (o.fKind = 8) || (decide (o.fKind = 7) || (decide (0 < k) && decide (o.fKind = 5))) | none => false) (by omega) (fun n k hk => by
    rw [ref27_dim_L1, if_pos (by simpa using hk), idx_lt hk, w64_succ hk (by omega), List.getElem?_eq_getElem hk]
    simp only [obs]
    by_cases h8 : (own t)[k].fKind = 8
    · simp [h8, obs]
    · by_cases h7 : (own t)[k].fKind = 7
      · simp [h7, obs]
      · by_cases h0 : 0 < k
        · simp [h8, h7, h0, obs]
        · simp [h8, h7, h0, obs]) (fun n => by rw [ref27_dim_L1, if_neg (by simp)]), obs, dimS_range]
  split <;> simp_all [Ctl.elim]

def uniq (t : GType) : Bool := decide (t.fKind = 2) && decide (t.fOwn.a0.fKind = 6)
theorem kind_Unique_eq (t : GType) : kind_Unique t = some (uniq t) := by
  unfold kind_Unique uniq
  by_cases h : t.fKind = 2
  · rw [if_pos (by simpa using h)]; simp [h]; rfl
  · rw [if_neg (by simpa using h)]; simp [h]

theorem ref05_Unique_eq (t : GType) : ref05_Unique t = some (uniq t) := by
  unfold ref05_Unique uniq
  by_cases h : t.fKind = 2
  · rw [if_pos (by simpa using h)]; simp [h]; rfl
  · rw [if_neg (by simpa using h)]; simp [h]

/-! ### Owners, raised along a chain. -/
def ari (p : List GClass) (name : List UInt8) : Int := match fi p name with | some i => (match p[i]? with | some c => (c.fParams.length : Int) | none => 0) | none => -1
theorem table_Arity_eq {p : List GClass} (hp : p.length < 9223372036854775806) (name : List UInt8) : table_Arity p name = some (ari p name) := by
  unfold table_Arity ari
  rw [table_Find_eq hp, obs]
  cases hf : fi p name with
  | none => rw [fnd_none hf, if_pos (by simp)]
  | some i =>
    rw [fnd_some hf, if_neg (by simp), idx_lt (fi_lt hf), obs]
    simp only [List.getElem?_eq_getElem (fi_lt hf)]
def abv (p : List GClass) (i : Nat) : List GOwner := match p[i]? with | some c => c.fAbove | none => []
def nextS (p : List GClass) (i : Nat) (l : List GOwner) : List GOwner := l.take 1 ++ (abv p i).map (putS · l)
def rs (p : List GClass) (e : Nat) : List Nat → List GOwner → List GOwner × Bool
  | [], _ => ([], false)
  | i :: r, l => if i = e then (l, true) else rs p e r (nextS p i l)
def aboveOk (p : List GClass) : Prop := ∀ c ∈ p, c.fAbove.length ≤ 20 ∧ c.fParams.length ≤ 20
theorem abv_le {p : List GClass} (h : aboveOk p) (i : Nat) : (abv p i).length ≤ 20 := by
  unfold abv
  cases hc : p[i]? with
  | none => simp
  | some c => exact (h c (List.mem_of_getElem? hc)).1
theorem nextS_len {p : List GClass} (h : aboveOk p) (i : Nat) {l : List GOwner} (hl : 1 ≤ l.length) : 1 ≤ (nextS p i l).length ∧ (nextS p i l).length ≤ 21 := by
  have := abv_le h i
  unfold nextS
  rw [List.length_append, List.length_map, List.length_take]
  omega
theorem rs_none (p : List GClass) (e : Nat) : ∀ (c : List Nat) (l : List GOwner), e ∉ c → rs p e c l = ([], false)
  | [], l, _ => rfl
  | i :: r, l, h => by
    simp only [List.mem_cons, not_or] at h
    simp only [rs]
    rw [if_neg (fun e' => h.1 e'.symm)]
    exact rs_none p e r _ h.2
theorem rs_some {p : List GClass} (h : aboveOk p) (e : Nat) : ∀ (c : List Nat) (l : List GOwner), 1 ≤ l.length → l.length ≤ 21 → e ∈ c → (rs p e c l).2 = true ∧ 1 ≤ (rs p e c l).1.length ∧ (rs p e c l).1.length ≤ 21
  | [], l, _, _, he => by simp at he
  | i :: r, l, h1, h2, he => by
    simp only [rs]
    by_cases hi : i = e
    · rw [if_pos hi]; exact ⟨rfl, h1, h2⟩
    · rw [if_neg hi]
      have := nextS_len h i h1
      exact rs_some h e r _ this.1 this.2 ((List.mem_cons.1 he).resolve_left (fun x => hi x.symm))
theorem raise_L2_eq (s : List GOwner) (cls : GClass) (hc : cls.fAbove.length ≤ 20) (n : Nat) (acc : List GOwner) (ha : acc.length ≤ 1000) (hn : n = cls.fAbove.length) (h1 : 1 ≤ cls.fAbove.length) :
    raise_raise_api_Owner__L2 (fun z1 z2 => owner_Put z1 z2) s cls n acc 1 = some (acc ++ (cls.fAbove.drop 1).map (putS · s)) := by
  have := foldL_at (l := cls.fAbove) (L := raise_raise_api_Owner__L2 (fun z1 z2 => owner_Put z1 z2) s cls) (by omega) (f := fun acc y => Option.bind (owner_Put y s) fun z => Option.bind (room ((acc.length : Int) + ([z].length : Int)) 16) fun _ => some (acc ++ [z])) (fin := some) (fun n acc x => by
    rw [raise_raise_api_Owner__L2]
    by_cases h : decide (x < (cls.fAbove.length : Int)) = true
    · rw [if_pos h, if_pos h]
      cases idx cls.fAbove x with
      | none => rfl
      | some y =>
        rw [obs, obs]
        cases owner_Put y s with
        | none => rfl
        | some z => rw [obs, obs]; cases room ((acc.length : Int) + ([z].length : Int)) 16 <;> rfl
    · rw [if_neg h, if_neg h]) n 1 acc (by omega) h1
  rw [show ((1 : Nat) : Int) = 1 from rfl] at this
  rw [this, foldO_room _ (putS · s) 2000 (fun s' y hs => by
    rw [owner_Put_eq, obs, List.length_singleton, room1 (by omega) (by omega) (by omega), obs]) _ acc (by rw [List.length_drop]; omega)]
  rfl
def rsC (r : List GOwner × Bool) : Ctl (List GOwner × Bool) Unit := if r.2 = true then .stop r else .next ()
theorem raise_L_eq {p : List GClass} (hp : p.length ≤ 1000000) (hA : aboveOk p) (e : Nat) (c : List Nat) (hc : ∀ x ∈ c, x < p.length) (hl : c.length ≤ 1000000) : ∀ (n k : Nat) (s : List GOwner), n + k = c.length + 1 → k ≤ c.length → 1 ≤ s.length → s.length ≤ 21 →
    raise_raise_api_Owner__L1 p (fun z1 z2 => owner_Put z1 z2) (e : Int) (c.map Int.ofNat) n s (k : Int) = some (rsC (rs p e (c.drop k) s))
  | 0, k, s, h, hk, _, _ => by omega
  | n + 1, k, s, h, hk, h1, h2 => by
    rw [raise_raise_api_Owner__L1, List.length_map]
    by_cases hlt : k < c.length
    · have hx := hc _ (List.getElem_mem hlt)
      rw [if_pos (by simpa using hlt), idx_nat, List.getElem?_map, List.getElem?_eq_getElem hlt, Option.map_some, obs, List.drop_eq_getElem_cons hlt]
      simp only [rs]
      by_cases he : c[k] = e
      · rw [if_pos (by simp [he]), if_pos he]; rfl
      · rw [if_neg (by simp; omega), if_neg he]
        have hcut : cutL s 0 1 = some (s.take 1) := by unfold cutL; rw [if_pos ⟨by omega, by omega, by omega⟩]; rfl
        have hidx : idx p (Int.ofNat c[k]) = some p[c[k]] := idx_lt hx
        have habv : abv p c[k] = p[c[k]].fAbove := by unfold abv; rw [List.getElem?_eq_getElem hx]
        have hle := abv_le hA c[k]
        rw [habv] at hle
        rw [hcut, obs, hidx, obs]
        have hb : (if (decide (0 < (p[c[k]].fAbove.length : Int))) = true then
          Option.bind (idx p[c[k]].fAbove 0) fun (y192 : GOwner) =>
          Option.bind (owner_Put y192 s) fun (y198 : GOwner) =>
          Option.bind (room (((s.take 1).length : Int) + ([y198].length : Int)) 16) fun (u200 : Unit) =>
          raise_raise_api_Owner__L2 (fun z1 z2 => owner_Put z1 z2) s p[c[k]] ((((p[c[k]].fAbove.length : Int) : Int) - ((w_i64 (0 + 1)))).toNat + 1) ((s.take 1) ++ [y198]) (w_i64 (0 + 1))
        else
          some (s.take 1) : Option ((List GOwner))) = some (nextS p c[k] s) := by
          unfold nextS
          rw [habv]
          by_cases h0 : 0 < p[c[k]].fAbove.length
          · rw [if_pos (by simpa using h0), show (0 : Int) = ((0 : Nat) : Int) from rfl, idx_lt h0, obs, owner_Put_eq, obs, List.length_singleton, room1 (by rw [List.length_take]; omega) (by omega) (by omega), obs]
            rw [show w_i64 (((0 : Nat) : Int) + 1) = 1 by rw [w64 (by omega) (by omega)]; rfl]
            rw [raise_L2_eq s p[c[k]] hle _ _ (by rw [List.length_append, List.length_take, List.length_singleton]; omega) (by omega) h0]
            congr 1
            rw [List.append_assoc]
            congr 1
            conv => rhs; rw [show p[c[k]].fAbove = p[c[k]].fAbove.drop 0 by simp, List.drop_eq_getElem_cons h0]
            rfl
          · rw [if_neg (by simpa using h0)]
            have : p[c[k]].fAbove = [] := List.length_eq_zero_iff.1 (by omega)
            rw [this]; simp
        rw [hb, obs, w64_succ hlt (by omega)]
        have hn := nextS_len hA c[k] h1
        exact raise_L_eq hp hA e c hc hl n (k + 1) _ (by omega) (by omega) hn.1 hn.2
    · rw [if_neg (by simpa using hlt), List.drop_eq_nil_of_le (by omega)]
      rfl
def raiseS (p : List GClass) (a : List UInt8) (l : List GOwner) (b : List UInt8) : List GOwner × Bool :=
  match fi p b with
  | none => ([], false)
  | some e => if (l.length : Int) = ari p a + 1 ∧ l ≠ [] then rs p e (ch p a) l else ([], false)
theorem ari_range {p : List GClass} (hA : aboveOk p) (a : List UInt8) : -1 ≤ ari p a ∧ ari p a ≤ 20 := by
  unfold ari
  split
  · rename_i i hi
    split
    · rename_i c hc
      have := (hA c (List.mem_of_getElem? hc)).2
      omega
    · omega
  · omega
theorem raise_Raise_eq {p : List GClass} (hp : p.length ≤ 1000000) (hA : aboveOk p) (a : List UInt8) (l : List GOwner) (b : List UInt8) : raise_Raise p a l b = some (raiseS p a l b) := by
  unfold raise_Raise raise_raise_api_Owner_ raiseS
  have har := ari_range hA a
  rw [table_Find_eq (by omega), obs, table_Arity_eq (by omega)]
  cases hf : fi p b with
  | none => rw [fnd_none hf, if_pos (by simp)]; rfl
  | some e =>
    show _ = some (if (l.length : Int) = ari p a + 1 ∧ l ≠ [] then rs p e (ch p a) l else ([], false))
    rw [fnd_some hf, if_neg (by simp), obs, w64 (by omega) (by omega)]
    by_cases h1 : (l.length : Int) = ari p a + 1
    · rw [if_neg (by simpa using h1), obs]
      by_cases h2 : l = []
      · rw [if_pos (by simp [h2]), if_neg (fun h => h.2 h2)]; rfl
      · have hlp : 1 ≤ l.length := List.length_pos_iff.2 h2
        rw [if_neg (by simpa using h2), if_pos ⟨h1, h2⟩]
        unfold slices_Clone_api_Owner
        rw [room_ok (by simp; omega), obs, obs, above_Chain_eq hp, obs]
        have hcl := ch_len p a
        obtain ⟨_, _, _, _, _, _, k7, _⟩ := ch_facts p a
        rw [List.length_map, show ((((ch p a).length : Int) : Int) - (0)).toNat + 1 = (ch p a).length + 1 by omega, show (0 : Int) = ((0 : Nat) : Int) from rfl, raise_L_eq hp hA e (ch p a) (fun x hx => (k7 x hx).1) (by omega) _ 0 l (by omega) (by omega) hlp (by omega), List.drop_zero, obs]
        unfold rsC
        cases hr : rs p e (ch p a) l with
        | mk r t =>
          cases t with
          | true => rfl
          | false =>
            -- nothing is left
            have : ∀ (c : List Nat) (l r : List GOwner), rs p e c l = (r, false) → r = [] := by
              intro c
              induction c with
              | nil => intro l r h; simp [rs] at h; exact h
              | cons i c ih =>
                intro l r h
                simp only [rs] at h
                split at h
                · cases h
                · exact ih _ _ h
            rw [this _ _ _ hr]; rfl
    · rw [if_pos (by simpa using h1), obs, if_pos rfl, if_neg (fun h => h1 h.1)]; rfl

theorem ref13_Arity_eq {p : List GClass} (hp : p.length < 9223372036854775806) (name : List UInt8) : ref13_Arity p name = some (ari p name) := by
  unfold ref13_Arity ari
  rw [ref13_Find_eq hp, obs]
  cases hf : fi p name with
  | none => rw [fnd_none hf, if_pos (by simp)]
  | some i =>
    rw [fnd_some hf, if_neg (by simp), idx_lt (fi_lt hf), obs]
    simp only [List.getElem?_eq_getElem (fi_lt hf)]
theorem refRaise_L {p : List GClass} (hA : aboveOk p) (b : List UInt8) {e : Nat} (he : fi p b = some e) (c : List Nat) (hc : ∀ x ∈ c, x < p.length ∧ ∃ nm, fi p nm = some x) (hl : c.length ≤ 1000000) : ∀ (n k : Nat) (s : List GOwner), c.length ≤ n + k → e ∈ c.drop k → 1 ≤ s.length → s.length ≤ 21 →
    ref15_Raise_L1 p b (c.map Int.ofNat) n s (k : Int) = some (rs p e (c.drop k) s).1
  | 0, k, s, h, hm, _, _ => by rw [List.drop_eq_nil_of_le (by omega)] at hm; simp at hm
  | n + 1, k, s, h, hm, h1, h2 => by
    have hlt : k < c.length := by
      rcases Nat.lt_or_ge k c.length with h' | h'
      · exact h'
      · rw [List.drop_eq_nil_of_le h'] at hm; simp at hm
    obtain ⟨hx, nm, hnm⟩ := hc _ (List.getElem_mem hlt)
    have hidx : idx p (Int.ofNat c[k]) = some p[c[k]] := idx_lt hx
    have habv : abv p c[k] = p[c[k]].fAbove := by unfold abv; rw [List.getElem?_eq_getElem hx]
    have hle := abv_le hA c[k]
    rw [habv] at hle
    rw [ref15_Raise_L1, idx_nat, List.getElem?_map, List.getElem?_eq_getElem hlt, Option.map_some, obs, hidx, obs, List.drop_eq_getElem_cons hlt]
    simp only [rs]
    obtain ⟨cl, hcl, hcn⟩ := fi_spec hnm
    rw [List.getElem?_eq_getElem hx, Option.some.injEq] at hcl
    have hiff : p[c[k]].fName = b ↔ c[k] = e := by
      rw [hcl, hcn]
      constructor
      · rintro rfl; rw [hnm] at he; exact Option.some.inj he
      · intro h'
        obtain ⟨c2, hc2, hn2⟩ := fi_spec he
        rw [← h', List.getElem?_eq_getElem hx, Option.some.injEq, hcl] at hc2
        rw [← hn2, ← hc2, hcn]
    by_cases hb : c[k] = e
    · rw [if_neg (by simp [hiff.2 hb]), if_pos hb]
    · rw [if_pos (by simpa using fun h' => hb (hiff.1 h')), if_neg hb]
      rw [show (0 : Int) = ((0 : Nat) : Int) from rfl, idx_lt (show 0 < s.length by omega), obs, obs, hidx, obs, ref04_All_eq _ _ (by omega) (by omega), obs, room_ok (by simp; omega), obs, w64_succ hlt (by omega)]
      have hn := nextS_len hA c[k] h1
      have hs : [s[0]] ++ List.map (putS · s) p[c[k]].fAbove = nextS p c[k] s := by
        unfold nextS
        rw [habv]
        congr 1
        cases s with
        | nil => simp at h1
        | cons x s => rfl
      rw [hs]
      rw [List.drop_eq_getElem_cons hlt] at hm
      exact refRaise_L hA b he c hc hl n (k + 1) _ (by omega) ((List.mem_cons.1 hm).resolve_left (fun x => hb x.symm)) hn.1 hn.2
theorem ref15_Raise_eq {p : List GClass} (hp : p.length ≤ 1000000) (hA : aboveOk p) (a : List UInt8) (l : List GOwner) (b : List UInt8) : ref15_Raise p a l b = some (raiseS p a l b) := by
  unfold ref15_Raise raiseS
  have har := ari_range hA a
  obtain ⟨_, _, _, _, _, _, k7, _⟩ := ch_facts p a
  have hcl := ch_len p a
  rw [ref_Below_eq hp, obs, ref13_Arity_eq (by omega)]
  cases hf : fi p b with
  | none =>
    have : bel p a b = false := by unfold bel; rw [hf]
    rw [this]; rfl
  | some e =>
    have hbel : bel p a b = decide (e ∈ ch p a) := by unfold bel; rw [hf]
    show _ = some (if (l.length : Int) = ari p a + 1 ∧ l ≠ [] then rs p e (ch p a) l else ([], false))
    rw [hbel]
    by_cases hm : e ∈ ch p a
    · rw [if_neg (by simpa using hm), obs, w64 (by omega) (by omega), obs]
      have hfa : ∃ i, fi p a = some i := by
        cases h : fi p a with
        | some i => exact ⟨i, rfl⟩
        | none =>
          have : ch p a = [] := by unfold ch chN; rw [h]
          rw [this] at hm; simp at hm
      obtain ⟨i, hi⟩ := hfa
      have h0 : 0 ≤ ari p a := by
        unfold ari; rw [hi]; simp only
        split <;> omega
      by_cases h1 : (l.length : Int) = ari p a + 1
      · have hne : l ≠ [] := by rintro rfl; simp at h1; omega
        have hlp : 1 ≤ l.length := List.length_pos_iff.2 hne
        rw [if_neg (by simpa using h1), if_pos ⟨h1, hne⟩, ref_Chain_eq hp, obs, room_ok (by simp; omega), obs, List.nil_append, show (0 : Int) = ((0 : Nat) : Int) from rfl,
          refRaise_L hA b hf (ch p a) k7 (by omega) _ 0 l (by omega) (by simpa using hm) hlp (by omega), obs, List.drop_zero]
        have := (rs_some hA e (ch p a) l hlp (by omega) hm).1
        rw [← this]
      · rw [if_pos (by simpa using h1), if_neg (fun h => h1 h.1)]
    · rw [if_pos (by simpa using hm), obs, if_pos rfl, rs_none p e _ l hm]
      split <;> rfl

theorem eqOwner_L {a b : List GOwner} (hl : a.length = b.length) (hp : a.length ≤ 1000000) : ∀ (n k : Nat), n + k = a.length + 1 → k ≤ a.length → slices_Equal_api_Owner_L1 a b n (k : Int) = some (if a.drop k = b.drop k then .next () else .stop false)
  | 0, k, h, hk => by omega
  | n + 1, k, h, hk => by
    rw [slices_Equal_api_Owner_L1]
    by_cases hlt : k < a.length
    · rw [if_pos (by simpa using hlt), idx_lt hlt, idx_lt (show k < b.length by omega), obs, obs, bGOwner_eq, List.drop_eq_getElem_cons hlt, List.drop_eq_getElem_cons (show k < b.length by omega)]
      by_cases he : a[k] = b[k]
      · rw [if_neg (by simpa using he), w64_succ hlt (by omega), eqOwner_L hl hp n (k + 1) (by omega) (by omega), he]
        simp only [List.cons.injEq, true_and]
      · rw [if_pos (by simpa using he), if_neg (fun h => he (List.cons.inj h).1)]
    · rw [if_neg (by simpa using hlt), List.drop_eq_nil_of_le (by omega), List.drop_eq_nil_of_le (by omega)]
      rfl
theorem eqOwner_eq {a b : List GOwner} (hp : a.length ≤ 1000000) : slices_Equal_api_Owner a b = some (decide (a = b)) := by
  unfold slices_Equal_api_Owner
  by_cases hl : a.length = b.length
  · rw [if_neg (by simp; omega), show (((a.length : Int) : Int) - (0)).toNat + 1 = a.length + 1 by omega, show (0 : Int) = ((0 : Nat) : Int) from rfl, eqOwner_L hl hp _ 0 (by omega) (by omega), obs, List.drop_zero, List.drop_zero]
    by_cases h : a = b
    · simp [h, Ctl.elim]
    · simp [h, Ctl.elim]
  · rw [if_pos (by simp; omega)]
    simp only [Option.some.injEq]
    symm
    simp only [decide_eq_false_iff_not]
    rintro rfl; exact hl rfl

/-! ### Under. -/
def narrow (o : GOwner) : Bool := decide (o.fKind ∈ [6, 8, 7])
def fitL : List GOwner → List GOwner → Bool
  | x :: l, y :: m => decide (l = m) && (decide (x = y) || (decide (y.fKind = 5) && !narrow x))
  | _, _ => false
def isS (p : List GClass) (a b : GType) : Bool :=
  if a.fKind = 1 then decide (b.fKind = 1)
  else if b.fKind ≠ 2 ∨ dimS (own b) = true then false
  else if a.fKind ≠ 2 then decide (a.fKind = 3)
  else if dimS (own a) = true ∨ bel p a.fClass b.fClass = false then false
  else if (raiseS p a.fClass (own a) b.fClass).2 = true then fitL (raiseS p a.fClass (own a) b.fClass).1 (own b) else false
theorem raiseS_len {p : List GClass} (hA : aboveOk p) {a b : List UInt8} {l : List GOwner} (hl : l.length ≤ 21) (h : (raiseS p a l b).2 = true) : 1 ≤ (raiseS p a l b).1.length ∧ (raiseS p a l b).1.length ≤ 21 := by
  unfold raiseS at h ⊢
  cases he : fi p b with
  | none => rw [he] at h; cases h
  | some e =>
    rw [he] at h
    show 1 ≤ (if (l.length : Int) = ari p a + 1 ∧ l ≠ [] then rs p e (ch p a) l else ([], false)).1.length ∧ _
    have h' : (if (l.length : Int) = ari p a + 1 ∧ l ≠ [] then rs p e (ch p a) l else ([], false)).2 = true := h
    by_cases h1 : (l.length : Int) = ari p a + 1 ∧ l ≠ []
    · rw [if_pos h1] at h'
      rw [if_pos h1]
      have : (match some e with | none => (([] : List GOwner), false) | some e => if (l.length : Int) = ari p a + 1 ∧ l ≠ [] then rs p e (ch p a) l else ([], false)) = rs p e (ch p a) l := by
        show (if (l.length : Int) = ari p a + 1 ∧ l ≠ [] then rs p e (ch p a) l else ([], false)) = _
        rw [if_pos h1]
      rw [this]
      by_cases hm : e ∈ ch p a
      · exact (rs_some hA e _ l (List.length_pos_iff.2 h1.2) hl hm).2
      · rw [rs_none p e _ l hm] at h'; cases h'
    · rw [if_neg h1] at h'; cases h'
theorem own_ne {t : GType} (h : t.fKind = 2) : ∃ x l, own t = x :: l := by
  have := own_len h
  cases ho : own t with
  | nil => rw [ho] at this; simp at this
  | cons x l => exact ⟨x, l, rfl⟩
theorem own_nil {t : GType} (h : t.fKind ≠ 2) : own t = [] := by unfold own; rw [if_neg h]
theorem under_Is_eq {p : List GClass} (hp : p.length ≤ 1000000) (hA : aboveOk p) (a b : GType) : under_Is p a b = some (isS p a b) := by
  unfold under_Is isS
  by_cases ha1 : a.fKind = 1
  · rw [if_pos (by simpa using ha1), if_pos ha1]; rfl
  rw [if_neg (by simpa using ha1), if_neg ha1]
  by_cases hb : b.fKind = 2
  · rw [if_neg (by simpa using hb), under_dim_eq, obs, obs]
    by_cases hd : dimS (own b) = true
    · rw [if_pos hd, if_pos (.inr hd)]
    rw [if_neg hd, if_neg (show ¬ (b.fKind ≠ 2 ∨ dimS (own b) = true) from by simp [hb, hd])]
    by_cases ha : a.fKind = 2
    · rw [if_neg (by simpa using ha), if_neg (show ¬ (a.fKind ≠ 2) from by simpa using ha), under_dim_eq, obs]
      by_cases hda : dimS (own a) = true
      · rw [if_pos hda, obs, if_pos rfl, if_pos (.inl hda)]
      rw [if_neg hda, above_Below_eq hp, obs, obs]
      by_cases hbl : bel p a.fClass b.fClass = true
      · rw [if_neg (by simp [hbl]), if_neg (show ¬ (dimS (own a) = true ∨ bel p a.fClass b.fClass = false) from by simp [hbl, hda]), kind_Owners_eq, obs, raise_Raise_eq hp hA, obs]
        by_cases hr : (raiseS p a.fClass (own a) b.fClass).2 = true
        · rw [if_neg (by simp [hr]), if_pos hr, kind_Owners_eq, obs]
          have hlen := raiseS_len hA (by have := own_le a; omega) hr
          obtain ⟨y, m, hm⟩ := own_ne hb
          generalize raiseS p a.fClass (own a) b.fClass = R at hr hlen
          obtain ⟨R1, R2⟩ := R
          cases R1 with
          | nil => simp at hlen
          | cons x l =>
            rw [hm]
            unfold under_of
            simp only [obs, show idx (y :: m) 0 = some y from rfl, show idx (x :: l) 0 = some x from rfl, under_of_1_eq x [6, 8, 7] (by simp)]
            unfold fitL narrow
            simp only [List.length_cons] at hlen
            by_cases h5 : y.fKind = 5
            · rw [if_pos (by simpa using h5), obs]
              by_cases hn : x.fKind ∈ [(6 : Int), 8, 7]
              · rw [decide_eq_true hn, if_neg (by simp), obs, eqOwner_eq (by simp; omega)]
                simp only [obs, Option.some.injEq]
                rw [Bool.eq_iff_iff]
                simp only [decide_eq_true_eq, List.cons.injEq, Bool.and_eq_true, Bool.or_eq_true, decide_eq_true hn, Bool.not_true, Bool.false_eq_true, or_false, and_false, Bool.and_false]
                exact ⟨fun h => ⟨h.2, h.1⟩, fun h => ⟨h.2, h.1⟩⟩
              · rw [decide_eq_false hn, if_pos (by simp), obs, eqOwner_eq (by simp; omega)]
                simp only [obs, Option.some.injEq]
                rw [Bool.eq_iff_iff]
                simp only [decide_eq_true_eq, List.cons.injEq, Bool.and_eq_true, Bool.or_eq_true, decide_eq_false hn, Bool.not_false, h5, and_true, List.set_cons_zero, Int.toNat_zero, true_and, or_true, true_or]
            · rw [if_neg (by simpa using h5), obs, if_neg (by simp), obs, eqOwner_eq (by simp; omega)]
              simp only [obs, Option.some.injEq]
              rw [Bool.eq_iff_iff]
              simp [h5]
              exact ⟨fun h => ⟨h.2, h.1⟩, fun h => ⟨h.2, h.1⟩⟩
        · rw [if_pos (by simpa using hr), if_neg hr]
      · rw [if_pos (by simpa using hbl), if_pos (by right; simpa using hbl)]
    · rw [if_pos (by simpa using ha), if_pos (show a.fKind ≠ 2 from ha)]; simp [BEq.beq]
  · rw [if_pos (by simpa using hb), obs, if_pos rfl, if_pos (.inl hb)]
theorem ref27_Is_eq {p : List GClass} (hp : p.length ≤ 1000000) (hA : aboveOk p) (a b : GType) : ref27_Is p a b = some (isS p a b) := by
  unfold ref27_Is isS
  by_cases ha1 : a.fKind = 1
  · rw [if_pos (by simpa using ha1), if_pos ha1, obs]
    by_cases hb1 : b.fKind = 1
    · rw [if_pos (by simpa using hb1)]; simp [hb1]
    · rw [if_neg (by simpa using hb1)]
      have hna : a.fKind ≠ 2 := by omega
      by_cases hb : b.fKind = 2
      · rw [if_neg (by simpa using hb), ref27_dim_eq, ref27_dim_eq, own_nil hna, obs, show dimS [] = false from rfl, if_neg (by simp), obs, obs]
        by_cases hd : dimS (own b) = true
        · rw [if_pos hd]; simp [hb1]
        · rw [if_neg hd, if_neg (by simp [ha1]), if_pos (by simp [ha1]), obs, if_pos rfl]; simp [hb1]
      · rw [if_pos (by simpa using hb), obs, if_pos rfl]; simp [hb1]
  rw [if_neg (by simpa using ha1), if_neg ha1, obs, if_neg (by simp)]
  by_cases hb : b.fKind = 2
  · rw [if_neg (by simpa using hb), ref27_dim_eq, ref27_dim_eq, obs]
    by_cases hda : dimS (own a) = true
    · have ha : a.fKind = 2 := by
        by_cases h : a.fKind = 2
        · exact h
        · rw [own_nil h] at hda; cases hda
      rw [if_pos hda, obs, if_pos rfl]
      by_cases hd : dimS (own b) = true
      · rw [if_pos (.inr hd)]
      · rw [if_neg (show ¬ (b.fKind ≠ 2 ∨ dimS (own b) = true) from by simp [hb, hd]), if_neg (show ¬ (a.fKind ≠ 2) from by simpa using ha), if_pos (.inl hda)]
    rw [if_neg hda, obs, obs]
    by_cases hd : dimS (own b) = true
    · rw [if_pos hd, if_pos (.inr hd)]
    rw [if_neg hd, if_neg (show ¬ (b.fKind ≠ 2 ∨ dimS (own b) = true) from by simp [hb, hd])]
    by_cases ha3 : a.fKind = 3
    · rw [if_pos (by simpa using ha3), if_pos (show a.fKind ≠ 2 by omega)]; simp [ha3]
    rw [if_neg (by simpa using ha3)]
    by_cases ha : a.fKind = 2
    · rw [if_neg (by simpa using ha), if_neg (show ¬ (a.fKind ≠ 2) from by simpa using ha), ref_Below_eq hp, obs, obs]
      by_cases hbl : bel p a.fClass b.fClass = true
      · rw [if_neg (by simp [hbl]), if_neg (show ¬ (dimS (own a) = true ∨ bel p a.fClass b.fClass = false) from by simp [hbl, hda]), ref05_Owners_eq, obs, ref15_Raise_eq hp hA, obs, ref05_Owners_eq, obs]
        by_cases hr : (raiseS p a.fClass (own a) b.fClass).2 = true
        · rw [if_neg (by simp [hr]), if_pos hr, obs]
          have hlen := raiseS_len hA (by have := own_le a; omega) hr
          obtain ⟨y, m, hm⟩ := own_ne hb
          generalize raiseS p a.fClass (own a) b.fClass = R at hr hlen
          obtain ⟨R1, R2⟩ := R
          cases R1 with
          | nil => simp at hlen
          | cons x l =>
            rw [hm]
            simp only [List.length_cons] at hlen ⊢
            unfold fitL narrow
            by_cases hlm : l.length = m.length
            · rw [if_neg (by simp; omega)]
              rw [show ((l.length + 1 : Nat) : Int) = (((x :: l).length : Nat) : Int) from rfl]
              rw [anyI (ref27_Is_L1 (x :: l, R2) (y :: m)) (r := false) (b := fun k => match (x :: l)[k]?, (y :: m)[k]? with | some u, some v => !decide (u = v) && (decide (0 < k) || (!decide (y.fKind = 5) || decide (x.fKind ∈ [6, 8, 7]))) | _, _ => false) (by simp; omega) (fun n k hk => by
                have hk2 : k < (y :: m).length := by simp only [List.length_cons] at hk ⊢; omega
                rw [ref27_Is_L1, if_pos (by simp only [List.length_cons] at hk; simp; omega), idx_lt hk, idx_lt hk2, w64_succ hk (by simp; omega), List.getElem?_eq_getElem hk, List.getElem?_eq_getElem hk2]
                simp only [obs, bGOwner_eq, show idx (y :: m) 0 = some y from rfl, show idx (x :: l) 0 = some x from rfl]
                generalize (x :: l)[k] = u
                generalize (y :: m)[k] = v
                by_cases huv : u = v
                · simp [huv, obs]
                · by_cases h0 : 0 < k
                  · simp [huv, h0, obs]
                  · by_cases h5 : y.fKind = 5
                    · by_cases h6 : x.fKind = 6
                      · simp [huv, h0, h5, h6, obs]
                      · by_cases h8 : x.fKind = 8
                        · simp [huv, h0, h5, h6, h8, obs]
                        · simp [huv, h0, h5, h6, h8, obs]
                    · simp [huv, h0, h5, obs]) (fun n => by rw [ref27_Is_L1, if_neg (by simp)]), obs]
              have key : ((List.range (x :: l).length).any fun k => match (x :: l)[k]?, (y :: m)[k]? with | some u, some v => !decide (u = v) && (decide (0 < k) || (!decide (y.fKind = 5) || decide (x.fKind ∈ [6, 8, 7]))) | _, _ => false) = !(decide (l = m) && (decide (x = y) || (decide (y.fKind = 5) && !decide (x.fKind ∈ [6, 8, 7])))) := by
                rw [Bool.eq_iff_iff]
                simp only [List.any_eq_true, List.mem_range, Bool.not_eq_true', Bool.and_eq_false_iff, decide_eq_false_iff_not, Bool.or_eq_false_iff]
                constructor
                · rintro ⟨k, hk, h⟩
                  have hk2 : k < (y :: m).length := by simp only [List.length_cons] at hk ⊢; omega
                  rw [List.getElem?_eq_getElem hk, List.getElem?_eq_getElem hk2] at h
                  simp only [Bool.and_eq_true, Bool.or_eq_true, Bool.not_eq_true', decide_eq_false_iff_not, decide_eq_true_eq] at h
                  obtain ⟨h1, h2⟩ := h
                  cases k with
                  | zero =>
                    right
                    refine ⟨h1, ?_⟩
                    rcases h2 with h2 | h2 | h2
                    · omega
                    · exact .inl h2
                    · right; rw [decide_eq_true h2]; rfl
                  | succ k => left; rintro rfl; exact h1 rfl
                · intro h
                  by_cases hlm' : l = m
                  · rcases h with h | ⟨h1, h2⟩
                    · exact (h hlm').elim
                    · refine ⟨0, by simp, ?_⟩
                      simp only [List.getElem?_cons_zero, Bool.and_eq_true, Bool.or_eq_true, Bool.not_eq_true', decide_eq_false_iff_not, decide_eq_true_eq]
                      refine ⟨h1, .inr ?_⟩
                      rcases h2 with h2 | h2
                      · exact .inl h2
                      · exact .inr (Classical.byContradiction fun h3 => by rw [decide_eq_false h3] at h2; cases h2)
                  · obtain ⟨k, hk⟩ : ∃ k, l[k]? ≠ m[k]? := by
                      apply Classical.byContradiction
                      intro hne
                      exact hlm' (List.ext_getElem? fun k => Classical.byContradiction fun h => hne ⟨k, h⟩)
                    have hkl : k < l.length := by
                      rcases Nat.lt_or_ge k l.length with h | h
                      · exact h
                      · rw [List.getElem?_eq_none h, List.getElem?_eq_none (by omega)] at hk; exact (hk rfl).elim
                    refine ⟨k + 1, by simp; omega, ?_⟩
                    rw [List.getElem?_cons_succ, List.getElem?_cons_succ]
                    rw [List.getElem?_eq_getElem hkl, List.getElem?_eq_getElem (show k < m.length by omega)] at hk ⊢
                    simp only [ne_eq, Option.some.injEq] at hk
                    simp [hk]
              rw [key]
              show _ = some (decide (l = m) && (decide (x = y) || (decide (y.fKind = 5) && !decide (x.fKind ∈ [6, 8, 7]))))
              cases (decide (l = m) && (decide (x = y) || (decide (y.fKind = 5) && !decide (x.fKind ∈ [6, 8, 7])))) <;> rfl
            · rw [if_pos (by simp; omega)]
              have : l ≠ m := fun h => hlm (by rw [h])
              simp [this]
        · rw [if_pos (by simpa using hr), if_neg hr, obs, if_pos rfl]
      · rw [if_pos (by simpa using hbl), if_pos (by right; simpa using hbl)]
    · rw [if_pos (by simpa using ha), if_pos (show a.fKind ≠ 2 from ha), obs, if_pos rfl]; simp [ha3]
  · rw [if_pos (by simpa using hb), obs, if_pos rfl, if_pos (.inl hb)]

theorem great27_eq {p : List GClass} (hp : p.length ≤ 9223372036854775807) : ∃ b, law27_great p = some b ∧ (b = false → p.length ≤ 30 ∧ aboveOk p) := by
  unfold law27_great
  rw [anyL (law27_great_L1 p) (r := true) (b := fun c => decide ((c.fAbove.length : Int) > 20) || decide ((c.fParams.length : Int) > 20)) hp (fun n x => by
    rw [law27_great_L1]
    by_cases h : decide (x < (p.length : Int)) = true
    · rw [if_pos h, if_pos h]
      cases idx p x with
      | none => rfl
      | some y =>
        simp only [obs]
        by_cases h1 : (y.fAbove.length : Int) > 20
        · rw [if_pos (by simpa using h1), obs, if_pos rfl, if_pos (by simp [h1])]
        · rw [if_neg (by simpa using h1), obs]; simp only [decide_eq_false h1, Bool.false_or]
    · rw [if_neg h, if_neg h]), obs]
  by_cases h : (p.any fun c => decide ((c.fAbove.length : Int) > 20) || decide ((c.fParams.length : Int) > 20)) = true
  · rw [if_pos h]; exact ⟨true, rfl, fun h => by cases h⟩
  · rw [if_neg h]
    refine ⟨_, rfl, fun hb => ⟨by simp at hb; omega, fun c hc => ?_⟩⟩
    simp only [List.any_eq_true, not_exists, not_and, Bool.or_eq_true, decide_eq_true_eq, not_or] at h
    have := h c hc
    omega

def givenS (p : List GClass) (a b : GType) : Bool :=
  if uniq a = false ∨ b.fKind ≠ 2 ∨ b.fOwn.a0.fKind ∈ [(6 : Int), 5, 8, 7] then false else isS p ({ a with fOwn := ({ a.fOwn with a0 := b.fOwn.a0 } : A4 GOwner) } : GType) b
theorem under_Given_eq {p : List GClass} (hp : p.length ≤ 1000000) (hA : aboveOk p) (a b : GType) : under_Given p a b = some (givenS p a b) := by
  unfold under_Given givenS under_of
  rw [obs, kind_Unique_eq, obs, under_of_1_eq _ [6, 5, 8, 7] (by simp)]
  by_cases h1 : uniq a = false
  · rw [if_pos (by simp [h1]), obs, if_pos rfl, if_pos (.inl h1)]
  · rw [if_neg (by simpa using h1)]
    by_cases h2 : b.fKind ≠ 2
    · rw [if_pos (by simpa using h2), obs, if_pos rfl, if_pos (.inr (.inl h2))]
    · rw [if_neg (by simpa using h2), obs, obs]
      by_cases h3 : b.fOwn.a0.fKind ∈ [(6 : Int), 5, 8, 7]
      · rw [decide_eq_true h3, if_pos rfl, if_pos (.inr (.inr h3))]
      · rw [decide_eq_false h3, if_neg (by simp), if_neg (fun h => h.elim h1 (fun h => h.elim h2 h3)), under_Is_eq hp hA, obs]
theorem ref27_Given_eq {p : List GClass} (hp : p.length ≤ 1000000) (hA : aboveOk p) (a b : GType) : ref27_Given p a b = some (givenS p a b) := by
  unfold ref27_Given givenS
  rw [ref05_Unique_eq, obs]
  by_cases h1 : uniq a = false
  · rw [if_pos (by simp [h1]), obs, if_pos rfl, if_pos (.inl h1)]
  · rw [if_neg (by simpa using h1)]
    by_cases h2 : b.fKind ≠ 2
    · rw [if_pos (by simpa using h2), obs, if_pos rfl, if_pos (.inr (.inl h2))]
    · rw [if_neg (by simpa using h2)]
      have key : (if (b.fOwn.a0.fKind == 6) = true then some true else if (b.fOwn.a0.fKind == 5) = true then some true else if (b.fOwn.a0.fKind == 8) = true then some true else some (b.fOwn.a0.fKind == 7)) = some (decide (b.fOwn.a0.fKind ∈ [(6 : Int), 5, 8, 7])) := by
        by_cases k6 : b.fOwn.a0.fKind = 6
        · simp [k6]
        · by_cases k5 : b.fOwn.a0.fKind = 5
          · simp [k5]
          · by_cases k8 : b.fOwn.a0.fKind = 8
            · simp [k8]
            · by_cases k7 : b.fOwn.a0.fKind = 7
              · simp [k7]
              · simp [k6, k5, k8, k7]
      rw [key, obs]
      by_cases h3 : b.fOwn.a0.fKind ∈ [(6 : Int), 5, 8, 7]
      · rw [decide_eq_true h3, if_pos rfl, if_pos (.inr (.inr h3))]
      · rw [decide_eq_false h3, if_neg (by simp), if_neg (fun h => h.elim h1 (fun h => h.elim h2 h3)), ref27_Is_eq hp hA, obs]
def sameS (a b : GType) : Bool :=
  if a.fKind ≠ b.fKind then false else if a.fKind ≠ 2 then true else decide (a.fClass = b.fClass) && (!dimS (own a) && decide (own a = own b))
theorem under_Same_eq (a b : GType) : under_Same a b = some (sameS a b) := by
  unfold under_Same sameS
  by_cases h1 : a.fKind = b.fKind
  · rw [if_neg (show ¬ ((a.fKind != b.fKind) = true) from by simpa using h1), if_neg (show ¬ (a.fKind ≠ b.fKind) from by simpa using h1)]
    by_cases h2 : a.fKind = 2
    · rw [if_neg (show ¬ ((a.fKind != 2) = true) from by simpa using h2), if_neg (show ¬ (a.fKind ≠ 2) from by simpa using h2)]
      by_cases h3 : a.fClass = b.fClass
      · rw [if_pos (by simpa using h3), under_dim_eq, obs]
        by_cases h4 : dimS (own a) = true
        · rw [if_neg (by simp [h4])]; simp [h4]
        · rw [if_pos (by simpa using h4), kind_Owners_eq, obs, kind_Owners_eq, obs, eqOwner_eq (by have := own_le a; omega), obs]
          simp [h3, h4]
      · rw [if_neg (by simpa using h3)]; simp [h3]
    · rw [if_pos (show (a.fKind != 2) = true from by simpa using h2), if_pos (show a.fKind ≠ 2 from h2)]
  · rw [if_pos (show (a.fKind != b.fKind) = true from by simpa using h1), if_pos (show a.fKind ≠ b.fKind from h1)]
theorem refSame_L {a b : List GOwner} (hl : a.length = b.length) (hp : a.length ≤ 1000000) : ∀ (n k : Nat), n + k = a.length + 1 → k ≤ a.length → ref27_Same_L1 a b n (k : Int) = some (if a.drop k = b.drop k then .next () else .stop false)
  | 0, k, h, hk => by omega
  | n + 1, k, h, hk => by
    rw [ref27_Same_L1]
    by_cases hlt : k < a.length
    · rw [if_pos (by simpa using hlt), idx_lt hlt, idx_lt (show k < b.length by omega), obs, obs, bGOwner_eq, List.drop_eq_getElem_cons hlt, List.drop_eq_getElem_cons (show k < b.length by omega)]
      by_cases he : a[k] = b[k]
      · rw [if_neg (by simpa using he), w64_succ hlt (by omega), refSame_L hl hp n (k + 1) (by omega) (by omega), he]
        simp only [List.cons.injEq, true_and]
      · rw [if_pos (by simpa using he), if_neg (fun h => he (List.cons.inj h).1)]
    · rw [if_neg (by simpa using hlt), List.drop_eq_nil_of_le (by omega), List.drop_eq_nil_of_le (by omega)]
      rfl
theorem ref27_Same_eq (a b : GType) : ref27_Same a b = some (sameS a b) := by
  unfold ref27_Same sameS
  rw [ref05_Owners_eq, obs, ref05_Owners_eq, obs, ref27_dim_eq]
  have hla := own_le a
  have fin : ∀ hl : (own a).length = (own b).length, (Option.bind (ref27_Same_L1 (own a) (own b) (((((own a).length : Int) : Int) - (0)).toNat + 1) 0) fun lr55 => Ctl.elim lr55 (fun v => some v) fun _ => some true) = some (decide (own a = own b)) := by
    intro hl
    rw [show ((((own a).length : Int) : Int) - (0)).toNat + 1 = (own a).length + 1 by omega, show (0 : Int) = ((0 : Nat) : Int) from rfl, refSame_L hl (by omega) _ 0 (by omega) (by omega), obs, List.drop_zero, List.drop_zero]
    by_cases h : own a = own b
    · simp [h, Ctl.elim]
    · simp [h, Ctl.elim]
  by_cases h1 : a.fKind = b.fKind
  · rw [if_neg (show ¬ ((a.fKind != b.fKind) = true) from by simpa using h1), if_neg (show ¬ (a.fKind ≠ b.fKind) from by simpa using h1)]
    by_cases h2 : a.fKind = 2
    · rw [if_pos (by simpa using h2), if_neg (show ¬ (a.fKind ≠ 2) from by simpa using h2)]
      by_cases h3 : a.fClass = b.fClass
      · rw [if_neg (by simpa using h3)]
        by_cases hl : (own a).length = (own b).length
        · rw [if_neg (by simp; omega)]
          by_cases h4 : dimS (own a) = true
          · simp [h4, obs]
          · rw [obs, obs, if_neg h4, fin hl]; simp [h3, h4]
        · rw [if_pos (by simp; omega), obs, if_pos rfl]
          have : own a ≠ own b := fun h => hl (by rw [h])
          simp [this]
      · rw [if_pos (by simpa using h3), obs, if_pos rfl]; simp [h3]
    · have h2b : b.fKind ≠ 2 := by omega
      have ea := own_nil h2
      have eb := own_nil h2b
      rw [if_neg (by simpa using h2), if_pos (show a.fKind ≠ 2 from h2), if_neg (by rw [ea, eb]; simp), obs, obs, if_neg (by rw [ea]; decide), fin (by rw [ea, eb])]
      simp [ea, eb]
  · rw [if_pos (show (a.fKind != b.fKind) = true from by simpa using h1), if_pos (show a.fKind ≠ b.fKind from h1), obs, if_pos rfl]

theorem law27_awake_true : law27_awake = some true := by decide +kernel
theorem law27_UnderIs_true {a0 : List GClass} {a1 a2 : GType} (h0 : listok (fun y => goodGClass y) a0) (_h1 : goodGType a1) (_h2 : goodGType a2) : law27_UnderIs a0 a1 a2 = some true := by
  have haw := law27_awake_true
  have hl := h0.1
  simp only [maxLen] at hl
  unfold law27_UnderIs
  obtain ⟨b, hb, hg⟩ := great27_eq (p := a0) (by omega)
  rw [hb, obs]
  cases b with
  | true => rw [if_pos rfl, haw]; rfl
  | false =>
    obtain ⟨hp, hA⟩ := hg rfl
    have hp' : a0.length ≤ 1000000 := by omega
    rw [if_neg (by simp), under_Is_eq hp' hA, ref27_Is_eq hp' hA, under_Given_eq hp' hA, ref27_Given_eq hp' hA, under_Same_eq, ref27_Same_eq]
    simp only [obs, beq_self_eq_true, if_true, haw]

end Go.Proofs.Ytkfgkkbfipgklaa
