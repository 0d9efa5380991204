/- A part of the proof that the law MethodKeeps gives true for every input. -/
import Derived.Test.YtahieoaggbmicaaMethodKeepsA2
import Derived.Test.YtahieoaggbmicaaMethodKeepsA3
import Derived.Test.YtahieoaggbmicaaMethodKeepsT
import Derived.Test.YtahieoaggbmicaaMethodKeepsD
/- The plain law. -/
namespace Go.Proofs.Ytahieoaggbmicaa
open Go.RowKit Go.Abs
/-! ### The first class of a name. -/
def fiN : List GClass → Nat → List UInt8 → Option Nat
  | [], _, _ => none
  | c :: t, k, name => if c.fName == name then some k else fiN t (k + 1) name
def fi (p : List GClass) (name : List UInt8) : Option Nat := fiN p 0 name
def fnd (p : List GClass) (name : List UInt8) : Int := match fi p name with | some i => (i : Int) | none => -1
theorem fiN_spec : ∀ (l : List GClass) (k : Nat) (name : List UInt8) (i : Nat), fiN l k name = some i → k ≤ i ∧ ∃ c, l[i - k]? = some c ∧ c.fName = name
  | [], k, name, i, h => by simp [fiN] at h
  | c :: t, k, name, i, h => by
    simp only [fiN] at h
    split at h
    · rename_i hc
      cases h
      exact ⟨Nat.le_refl _, c, by simp, by simpa using hc⟩
    · obtain ⟨h1, c', h2, h3⟩ := fiN_spec t (k + 1) name i h
      refine ⟨by omega, c', ?_, h3⟩
      rw [show i - k = (i - (k + 1)) + 1 by omega, List.getElem?_cons_succ]
      exact h2
theorem fiN_some : ∀ (l : List GClass) (k : Nat) (c : GClass), c ∈ l → ∃ i, fiN l k c.fName = some i
  | [], k, c, h => by simp at h
  | c' :: t, k, c, h => by
    simp only [fiN]
    split
    · exact ⟨k, rfl⟩
    · rename_i hc
      rcases List.mem_cons.1 h with rfl | h
      · simp at hc
      · exact fiN_some t (k + 1) c h
theorem fi_spec {p : List GClass} {name : List UInt8} {i : Nat} (h : fi p name = some i) : ∃ c, p[i]? = some c ∧ c.fName = name := by
  obtain ⟨_, c, h1, h2⟩ := fiN_spec p 0 name i h
  exact ⟨c, by simpa using h1, h2⟩
theorem fi_lt {p : List GClass} {name : List UInt8} {i : Nat} (h : fi p name = some i) : i < p.length := by
  obtain ⟨c, h1, _⟩ := fi_spec h
  exact (List.getElem?_eq_some_iff.1 h1).1
theorem fi_some {p : List GClass} {c : GClass} (h : c ∈ p) : ∃ i, fi p c.fName = some i := fiN_some p 0 c h
theorem fnd_some {p : List GClass} {name : List UInt8} {i : Nat} (h : fi p name = some i) : fnd p name = (i : Int) := by unfold fnd; rw [h]
theorem fnd_none {p : List GClass} {name : List UInt8} (h : fi p name = none) : fnd p name = -1 := by unfold fnd; rw [h]
/-- What a loop over a list that stops at the first hit comes to. -/
def hit (o : Option Nat) : Ctl Int Unit := match o with | some i => .stop (i : Int) | none => .next ()

theorem indexFunc_L {p : List GClass} (name : List UInt8) (hp : p.length < 9223372036854775806) : ∀ (n k : Nat), n + k = p.length + 1 → k ≤ p.length →
    slices_IndexFunc_api_Class_L1 p (fun (z1 : GClass) => table_Find_1 z1 name) n (k : Int) = some (hit (fiN (p.drop k) k name))
  | 0, k, h, hk => by omega
  | n + 1, k, h, hk => by
    simp only [slices_IndexFunc_api_Class_L1]
    by_cases hlt : k < p.length
    · rw [if_pos (by simpa using hlt), idx_lt hlt, List.drop_eq_getElem_cons hlt]
      simp only [obs, table_Find_1, fiN]
      by_cases hc : (p[k].fName == name) = true
      · rw [if_pos hc, if_pos hc]; rfl
      · rw [if_neg hc, if_neg hc, w64_succ hlt (by omega)]
        exact indexFunc_L name hp n (k + 1) (by omega) (by omega)
    · rw [if_neg (by simpa using hlt), List.drop_eq_nil_of_le (by omega)]
      rfl
theorem table_Find_eq {p : List GClass} (hp : p.length < 9223372036854775806) (name : List UInt8) : table_Find p name = some (fnd p name) := by
  unfold table_Find slices_IndexFunc_api_Class
  have h := indexFunc_L name hp (p.length + 1) 0 (by omega) (by omega)
  rw [show (((p.length : Int) : Int) - (0)).toNat + 1 = p.length + 1 by omega, show (0 : Int) = ((0 : Nat) : Int) from rfl, h]
  simp only [List.drop_zero, obs]
  unfold fnd fi hit
  cases fiN p 0 name <;> rfl

theorem ref13_Find_L {p : List GClass} (name : List UInt8) (hp : p.length < 9223372036854775806) : ∀ (n k : Nat), n + k = p.length + 1 → k ≤ p.length →
    ref13_Find_L1 p name n (k : Int) = some (hit (fiN (p.drop k) k name))
  | 0, k, h, hk => by omega
  | n + 1, k, h, hk => by
    simp only [ref13_Find_L1]
    by_cases hlt : k < p.length
    · rw [if_pos (by simpa using hlt), idx_lt hlt, List.drop_eq_getElem_cons hlt]
      simp only [obs, fiN]
      by_cases hc : (p[k].fName == name) = true
      · rw [if_pos hc, if_pos hc]; rfl
      · rw [if_neg hc, if_neg hc, w64_succ hlt (by omega)]
        exact ref13_Find_L name hp n (k + 1) (by omega) (by omega)
    · rw [if_neg (by simpa using hlt), List.drop_eq_nil_of_le (by omega)]
      rfl
theorem ref13_Find_eq {p : List GClass} (hp : p.length < 9223372036854775806) (name : List UInt8) : ref13_Find p name = some (fnd p name) := by
  unfold ref13_Find
  have h := ref13_Find_L name hp (p.length + 1) 0 (by omega) (by omega)
  rw [show (((p.length : Int) : Int) - (0)).toNat + 1 = p.length + 1 by omega, show (0 : Int) = ((0 : Nat) : Int) from rfl, h]
  simp only [List.drop_zero, obs]
  unfold fnd fi hit
  cases fiN p 0 name <;> rfl

/-! ### The walk up. -/
/-- The class that stands at `i`, its name's super. -/
def sup (p : List GClass) (i : Nat) : List UInt8 := match p[i]? with | some c => c.fSuper | none => []
def upN (p : List GClass) : Nat → List UInt8 → List Nat
  | 0, _ => []
  | n + 1, name => match fi p name with
    | none => []
    | some i => if sup p i == [] then [i] else i :: upN p n (sup p i)
theorem itR_up_n_eq {p : List GClass} (hp : p.length < 9223372036854775806) : ∀ (n : Nat) (name : List UInt8), itR_up_n p n name = some ((upN p n name).map Int.ofNat)
  | 0, name => rfl
  | n + 1, name => by
    simp only [itR_up_n, upN, table_Find_eq hp, obs]
    cases hf : fi p name with
    | none => rw [fnd_none hf]; simp
    | some i =>
      rw [fnd_some hf, if_neg (by omega)]
      obtain ⟨c, hc, _⟩ := fi_spec hf
      have hidx : idx p (i : Int) = some c := by rw [idx_nat]; exact hc
      rw [hidx]
      have hs : sup p i = c.fSuper := by unfold sup; rw [hc]
      simp only [obs, hs]
      by_cases he : (c.fSuper == []) = true
      · rw [if_pos he, if_pos he]; rfl
      · rw [if_neg he, if_neg he, itR_up_n_eq hp n c.fSuper]; rfl
theorem itR_up_eq {p : List GClass} (hp : p.length < 9223372036854775806) (name : List UInt8) : itR_up p name = some ((upN p (p.length + 1) name).map Int.ofNat) := by
  unfold itR_up; rw [if_pos hp, itR_up_n_eq hp]

/-- The chain: up to the first one that comes twice. -/
def chN (p : List GClass) : Nat → List Nat → List UInt8 → List Nat
  | 0, out, _ => out
  | n + 1, out, name => match fi p name with
    | none => out
    | some i => if i ∈ out then out else if sup p i == [] then out ++ [i] else chN p n (out ++ [i]) (sup p i)
def ch (p : List GClass) (name : List UInt8) : List Nat := chN p (p.length + 1) [] name

theorem nodup_len : ∀ (L : Nat) (l : List Nat), l.Nodup → (∀ x ∈ l, x < L) → l.length ≤ L
  | 0, l, _, h => by
    cases l with
    | nil => exact Nat.le_refl _
    | cons x l => have := h x (by simp); omega
  | L + 1, l, hn, h => by
    have h1 := nodup_len L (l.erase L) (hn.erase L) (fun x hx => by
      have := (hn.mem_erase_iff.1 hx)
      have := h x this.2
      omega)
    by_cases hm : L ∈ l
    · have := List.length_erase_of_mem hm; omega
    · rw [List.erase_of_not_mem hm] at h1; omega

/-- What holds on the way up. -/
structure Way (p : List GClass) (out : List Nat) (name : List UInt8) : Prop where
  nd : out.Nodup
  lt : ∀ x ∈ out, x < p.length
  nx : ∀ x ∈ out, sup p x ≠ [] ∧ (sup p x = name ∨ ∃ j, fi p (sup p x) = some j ∧ j ∈ out)
  own : ∀ x ∈ out, ∃ nm, fi p nm = some x

theorem Way.nil (p : List GClass) (name : List UInt8) : Way p [] name := ⟨List.nodup_nil, by simp, by simp, by simp⟩
theorem Way.snoc {p : List GClass} {out : List Nat} {name : List UInt8} {i : Nat} (h : Way p out name) (hf : fi p name = some i) (hi : i ∉ out) (hs : sup p i ≠ []) : Way p (out ++ [i]) (sup p i) := by
  refine ⟨?_, fun x hx => ?_, fun x hx => ?_, fun x hx => ?_⟩
  · refine List.nodup_append.2 ⟨h.nd, by simp, fun a ha b hb => ?_⟩
    simp at hb; subst hb; rintro rfl; exact hi ha
  · rcases List.mem_append.1 hx with hx | hx
    · exact h.lt x hx
    · simp at hx; subst hx; exact fi_lt hf
  · rcases List.mem_append.1 hx with hx | hx
    · obtain ⟨h1, h2⟩ := h.nx x hx
      refine ⟨h1, .inr ?_⟩
      rcases h2 with h2 | ⟨j, h2, h3⟩
      · exact ⟨i, by rw [h2]; exact hf, by simp⟩
      · exact ⟨j, h2, by simp [h3]⟩
    · simp at hx; subst hx; exact ⟨hs, .inl rfl⟩
  · rcases List.mem_append.1 hx with hx | hx
    · exact h.own x hx
    · simp at hx; subst hx; exact ⟨name, hf⟩

/-- A set of classes that one does not leave upwards. -/
def Shut (p : List GClass) (S : List Nat) : Prop := ∀ x ∈ S, sup p x ≠ [] → ∀ j, fi p (sup p x) = some j → j ∈ S
theorem upN_shut {p : List GClass} {S : List Nat} (h : Shut p S) : ∀ (n : Nat) (name : List UInt8), (∀ j, fi p name = some j → j ∈ S) → ∀ x ∈ upN p n name, x ∈ S
  | 0, name, _, x, hx => by simp [upN] at hx
  | n + 1, name, hs, x, hx => by
    simp only [upN] at hx
    cases hf : fi p name with
    | none => rw [hf] at hx; simp at hx
    | some i =>
      rw [hf] at hx
      have hi := hs i hf
      simp only at hx
      split at hx
      · simp at hx; subst hx; exact hi
      · rename_i he
        rcases List.mem_cons.1 hx with rfl | hx
        · exact hi
        · exact upN_shut h n _ (fun j hj => h i hi (by simpa using he) j hj) x hx
/-- .. where each has one above it: the walk never ends. -/
theorem upN_round {p : List GClass} {S : List Nat} (h : ∀ x ∈ S, sup p x ≠ [] ∧ ∃ j, fi p (sup p x) = some j ∧ j ∈ S) : ∀ (n : Nat) (name : List UInt8) (i : Nat), fi p name = some i → i ∈ S → (upN p n name).length = n
  | 0, name, i, _, _ => rfl
  | n + 1, name, i, hf, hi => by
    obtain ⟨h1, j, h2, h3⟩ := h i hi
    simp only [upN, hf]
    rw [if_neg (by simpa using h1)]
    simp [upN_round h n _ j h2 h3]

/-- Did the chain end because one came twice? -/
def back (p : List GClass) (l : List Nat) : Bool := match l.getLast? with
  | none => false
  | some i => !(sup p i == []) && (match fi p (sup p i) with | some j => decide (j ∈ l) | none => false)

/-- **The walk and the chain.** -/
theorem upN_chN {p : List GClass} : ∀ (n : Nat) (out : List Nat) (name : List UInt8), n + out.length = p.length + 1 → Way p out name → (out = [] ∨ ∃ x, out.getLast? = some x ∧ sup p x = name) →
    ∃ R, out ++ upN p n name = chN p n out name ++ R ∧ (∀ x ∈ R, x ∈ chN p n out name) ∧ (∀ x ∈ out, x ∈ chN p n out name) ∧ (∀ j, fi p name = some j → j ∈ chN p n out name) ∧ Shut p (chN p n out name) ∧ (chN p n out name).Nodup ∧ (∀ x ∈ chN p n out name, x < p.length ∧ ∃ nm, fi p nm = some x) ∧
      (back p (chN p n out name) = decide ((upN p n name).length = n))
  | 0, out, name, hn, hw, hl => by
    exfalso
    have := nodup_len p.length out hw.nd hw.lt
    omega
  | n + 1, out, name, hn, hw, hl => by
    have hlen := nodup_len p.length out hw.nd hw.lt
    cases hf : fi p name with
    | none =>
      simp only [upN, chN, hf]
      refine ⟨[], by simp, by simp, fun x hx => hx, by simp, fun x hx hne j hj => ?_, hw.nd, fun x hx => ⟨hw.lt x hx, hw.own x hx⟩, ?_⟩
      · rcases (hw.nx x hx).2 with h1 | ⟨j', h1, h2⟩
        · rw [h1, hf] at hj; cases hj
        · rw [h1] at hj; cases hj; exact h2
      · have : back p out = false := by
          unfold back
          rcases hl with rfl | ⟨x, h1, h2⟩
          · rfl
          · rw [h1]; simp only [h2, hf, Bool.and_false]
        rw [this]; simp
    | some i =>
      simp only [upN, chN, hf]
      by_cases hi : i ∈ out
      · rw [if_pos hi]
        have hround : ∀ x ∈ out, sup p x ≠ [] ∧ ∃ j, fi p (sup p x) = some j ∧ j ∈ out := by
          intro x hx
          obtain ⟨h1, h2⟩ := hw.nx x hx
          refine ⟨h1, ?_⟩
          rcases h2 with h2 | h2
          · exact ⟨i, by rw [h2]; exact hf, hi⟩
          · exact h2
        have hshut : Shut p out := fun x hx _ j hj => by
          obtain ⟨_, j', h1, h2⟩ := hround x hx
          rw [h1] at hj; cases hj; exact h2
        have hsub := upN_shut hshut (n + 1) name (fun j hj => by rw [hf] at hj; cases hj; exact hi)
        have hfull := upN_round hround (n + 1) name i hf hi
        simp only [upN, hf] at hsub hfull
        refine ⟨_, rfl, hsub, fun x hx => hx, fun j hj => by cases hj; exact hi, hshut, hw.nd, fun x hx => ⟨hw.lt x hx, hw.own x hx⟩, ?_⟩
        rw [hfull]
        have : back p out = true := by
          unfold back
          rcases hl with rfl | ⟨x, h1, h2⟩
          · simp at hi
          · have hx : x ∈ out := List.mem_of_getLast? h1
            rw [h1]
            simp only [h2, hf, hi, decide_true, Bool.and_true]
            have := (hw.nx x hx).1
            rw [h2] at this
            simpa using this
        rw [this]; simp
      · rw [if_neg hi]
        by_cases hs : (sup p i == []) = true
        · rw [if_pos hs, if_pos hs]
          have hs' : sup p i = [] := by simpa using hs
          have hw2 : (out ++ [i]).Nodup := List.nodup_append.2 ⟨hw.nd, by simp, fun a ha b hb => by
            simp at hb; subst hb; rintro rfl; exact hi ha⟩
          have hlt2 : ∀ x ∈ out ++ [i], x < p.length := fun x hx => by
            rcases List.mem_append.1 hx with hx | hx
            · exact hw.lt x hx
            · simp at hx; subst hx; exact fi_lt hf
          have hlen2 := nodup_len p.length _ hw2 hlt2
          refine ⟨[], by simp, by simp, fun x hx => by simp [hx], fun j hj => by cases hj; simp, fun x hx hne j hj => ?_, hw2, fun x hx => ⟨hlt2 x hx, ?_⟩, ?_⟩
          · rcases List.mem_append.1 hx with hx | hx
            · rcases (hw.nx x hx).2 with h1 | ⟨j', h1, h2⟩
              · rw [h1, hf] at hj; cases hj; simp
              · rw [h1] at hj; cases hj; simp [h2]
            · simp at hx; subst hx; exact absurd hs' hne
          · rcases List.mem_append.1 hx with hx | hx
            · exact hw.own x hx
            · simp at hx; subst hx; exact ⟨name, hf⟩
          · have : back p (out ++ [i]) = false := by
              unfold back; simp [hs']
            rw [this]
            simp at hlen2
            simp; omega
        · rw [if_neg hs, if_neg hs]
          have hs' : sup p i ≠ [] := by simpa using hs
          obtain ⟨R, k1, k2, k3, k4, k5, k6, k7, k8⟩ := upN_chN n (out ++ [i]) (sup p i) (by simp; omega) (hw.snoc hf hi hs') (.inr ⟨i, by simp, rfl⟩)
          refine ⟨R, by rw [← k1]; simp, k2, fun x hx => k3 x (by simp [hx]), fun j hj => by cases hj; exact k3 i (by simp), k5, k6, k7, ?_⟩
          rw [k8]; simp
/-- The facts about a name's chain. -/
theorem ch_facts (p : List GClass) (name : List UInt8) : ∃ R, upN p (p.length + 1) name = ch p name ++ R ∧ (∀ x ∈ R, x ∈ ch p name) ∧ (∀ j, fi p name = some j → j ∈ ch p name) ∧ Shut p (ch p name) ∧ (ch p name).Nodup ∧ (∀ x ∈ ch p name, x < p.length ∧ ∃ nm, fi p nm = some x) ∧
    (back p (ch p name) = decide ((upN p (p.length + 1) name).length = p.length + 1)) := by
  obtain ⟨R, k1, k2, k3, k4, k5, k6, k7, k8⟩ := upN_chN (p.length + 1) [] name (by simp) (Way.nil p name) (.inl rfl)
  exact ⟨R, by unfold ch; simpa using k1, k2, k4, k5, k6, k7, k8⟩
theorem mem_up {p : List GClass} {name : List UInt8} {x : Nat} : x ∈ upN p (p.length + 1) name ↔ x ∈ ch p name := by
  obtain ⟨R, k1, k2, _⟩ := ch_facts p name
  rw [k1]
  constructor
  · intro h
    rcases List.mem_append.1 h with h | h
    · exact h
    · exact k2 x h
  · intro h; simp [h]

/-! ### Chains, by the program and by the document. -/
theorem idxI_L {l : List Int} (a : Int) (hp : l.length < 9223372036854775806) : ∀ (n k : Nat), n + k = l.length + 1 → k ≤ l.length →
    ∃ r, slices_Index_int_L1 l a n (k : Int) = some r ∧ ((∃ v : Int, r = .stop v ∧ 0 ≤ v ∧ a ∈ l.drop k) ∨ (r = .next () ∧ a ∉ l.drop k))
  | 0, k, h, hk => by omega
  | n + 1, k, h, hk => by
    simp only [slices_Index_int_L1]
    by_cases hlt : k < l.length
    · rw [if_pos (by simpa using hlt), idx_lt hlt, List.drop_eq_getElem_cons hlt]
      simp only [obs]
      by_cases hc : (a == l[k]) = true
      · rw [if_pos hc]
        have hc' : a = l[k] := by simpa using hc
        exact ⟨_, rfl, .inl ⟨_, rfl, by omega, by rw [hc']; exact List.mem_cons_self⟩⟩
      · rw [if_neg hc, w64_succ hlt (by omega)]
        obtain ⟨r, h1, h2⟩ := idxI_L a hp n (k + 1) (by omega) (by omega)
        refine ⟨r, h1, ?_⟩
        have hne : a ≠ l[k] := by simpa using hc
        rcases h2 with ⟨v, h3, h4, h5⟩ | ⟨h3, h4⟩
        · exact .inl ⟨v, h3, h4, List.mem_cons_of_mem _ h5⟩
        · exact .inr ⟨h3, fun hm => (List.mem_cons.1 hm).elim hne h4⟩
    · rw [if_neg (by simpa using hlt), List.drop_eq_nil_of_le (by omega)]
      exact ⟨_, rfl, .inr ⟨rfl, by simp⟩⟩
theorem contains_eq {l : List Int} (hp : l.length < 9223372036854775806) (a : Int) : slices_Contains_int l a = some (decide (a ∈ l)) := by
  unfold slices_Contains_int slices_Index_int
  obtain ⟨r, h1, h2⟩ := idxI_L a hp (l.length + 1) 0 (by omega) (by omega)
  rw [show (((l.length : Int) : Int) - (0)).toNat + 1 = l.length + 1 by omega, show (0 : Int) = ((0 : Nat) : Int) from rfl, h1]
  rcases h2 with ⟨v, rfl, h3, h4⟩ | ⟨rfl, h4⟩
  · simp only [obs, Ctl.elim]
    simp only [List.drop_zero] at h4
    simp [h4, h3]
  · simp only [obs, Ctl.elim]
    simp only [List.drop_zero] at h4
    simp [h4]
theorem mem_cast {i : Nat} {l : List Nat} : ((i : Int) ∈ l.map Int.ofNat) ↔ i ∈ l := by
  rw [List.mem_map]
  constructor
  · rintro ⟨j, h1, h2⟩
    have : j = i := Int.ofNat.inj h2
    exact this ▸ h1
  · intro h; exact ⟨i, h, rfl⟩

theorem chain_runs {p : List GClass} (hp : p.length ≤ 1000000) : ∀ (n : Nat) (out : List Nat) (name : List UInt8), n + out.length = p.length + 1 →
    ∃ r, runs above_Chain_B1 ((upN p n name).map Int.ofNat) (out.map Int.ofNat) = some r ∧ Ctl.elim r (fun x => x) (fun x => x) = (chN p n out name).map Int.ofNat
  | 0, out, name, _ => ⟨_, rfl, rfl⟩
  | n + 1, out, name, hn => by
    have hout : (out.map Int.ofNat).length < 9223372036854775806 := by simp; omega
    have hroom : room (((out.map Int.ofNat).length : Int) + (([(0 : Int)].length : Nat) : Int)) 8 = some () := room_ok (by simp; omega)
    simp only [upN, chN]
    cases hf : fi p name with
    | none => exact ⟨_, rfl, rfl⟩
    | some i =>
      simp only
      have hstep : ∀ rest, runs above_Chain_B1 (((i : Nat) :: rest).map Int.ofNat) (out.map Int.ofNat) = if i ∈ out then some (.stop (out.map Int.ofNat)) else runs above_Chain_B1 (rest.map Int.ofNat) ((out ++ [i]).map Int.ofNat) := by
        intro rest
        simp only [List.map_cons, runs, above_Chain_B1]
        rw [contains_eq hout]
        simp only [obs]
        by_cases hi : i ∈ out
        · have : Int.ofNat i ∈ out.map Int.ofNat := mem_cast.2 hi
          rw [if_pos hi, if_pos (by simpa using this)]
          rfl
        · have hni : ¬ Int.ofNat i ∈ out.map Int.ofNat := fun h => hi (mem_cast.1 h)
          rw [if_neg hi, if_neg (by simpa using hni)]
          rw [show (([Int.ofNat i].length : Nat) : Int) = (([(0 : Int)].length : Nat) : Int) from rfl, hroom]
          simp [obs, Ctl.elim]
      by_cases hi : i ∈ out
      · rw [if_pos hi]
        split
        · rw [hstep, if_pos hi]; exact ⟨_, rfl, rfl⟩
        · rw [hstep, if_pos hi]; exact ⟨_, rfl, rfl⟩
      · rw [if_neg hi]
        by_cases hs : (sup p i == []) = true
        · rw [if_pos hs, if_pos hs, hstep, if_neg hi]
          exact ⟨_, rfl, rfl⟩
        · rw [if_neg hs, if_neg hs, hstep, if_neg hi]
          exact chain_runs hp n (out ++ [i]) (sup p i) (by simp; omega)
theorem above_Chain_eq {p : List GClass} (hp : p.length ≤ 1000000) (name : List UInt8) : above_Chain p name = some ((ch p name).map Int.ofNat) := by
  unfold above_Chain above_up
  simp only [obs]
  rw [itR_up_eq (by omega)]
  simp only [obs]
  obtain ⟨r, h1, h2⟩ := chain_runs hp (p.length + 1) [] name (by simp)
  rw [show ([] : List Int) = ([] : List Nat).map Int.ofNat from rfl, h1]
  unfold ch
  rw [← h2]
  cases r <;> rfl
theorem ch_len (p : List GClass) (name : List UInt8) : (ch p name).length ≤ p.length := by
  obtain ⟨_, _, _, _, _, k6, k7, _⟩ := ch_facts p name
  exact nodup_len _ _ k6 (fun x hx => (k7 x hx).1)
theorem ch_ne {p : List GClass} {name : List UInt8} {i : Nat} (h : fi p name = some i) : ch p name ≠ [] := by
  obtain ⟨_, _, _, k4, _⟩ := ch_facts p name
  intro e
  have := k4 i h
  rw [e] at this; simp at this

theorem has_L {l : List Int} (a : Int) (hp : l.length < 9223372036854775806) : ∀ (n k : Nat), n + k = l.length + 1 → k ≤ l.length →
    ref14_has_L1 l a n (k : Int) = some (if a ∈ l.drop k then .stop true else .next ())
  | 0, k, h, hk => by omega
  | n + 1, k, h, hk => by
    simp only [ref14_has_L1]
    by_cases hlt : k < l.length
    · rw [if_pos (by simpa using hlt), idx_lt hlt, List.drop_eq_getElem_cons hlt]
      simp only [obs]
      by_cases hc : (l[k] == a) = true
      · rw [if_pos hc]
        simp at hc
        rw [if_pos (by rw [← hc]; exact List.mem_cons_self)]
      · rw [if_neg hc, w64_succ hlt (by omega), has_L a hp n (k + 1) (by omega) (by omega)]
        have hne : a ≠ l[k] := fun e => hc (by simp [e])
        have e : (a ∈ l[k] :: l.drop (k + 1)) ↔ a ∈ l.drop (k + 1) := ⟨fun hm => (List.mem_cons.1 hm).resolve_left hne, List.mem_cons_of_mem _⟩
        simp only [e]
    · rw [if_neg (by simpa using hlt), List.drop_eq_nil_of_le (by omega)]
      simp
theorem has_eq {l : List Int} (hp : l.length < 9223372036854775806) (a : Int) : ref14_has l a = some (decide (a ∈ l)) := by
  unfold ref14_has
  have h := has_L a hp (l.length + 1) 0 (by omega) (by omega)
  rw [show (((l.length : Int) : Int) - (0)).toNat + 1 = l.length + 1 by omega, show (0 : Int) = ((0 : Nat) : Int) from rfl, h]
  simp only [obs, List.drop_zero]
  by_cases hm : a ∈ l
  · simp [hm, Ctl.elim]
  · simp [hm, Ctl.elim]

theorem refChain_L {p : List GClass} (hp : p.length ≤ 1000000) : ∀ (n : Nat) (out : List Nat) (name : List UInt8), n + out.length = p.length + 1 → Way p out name →
    ∃ r, ref14_Chain_L1 p (n + 1) (out.map Int.ofNat) (fnd p name) = some r ∧ Ctl.elim r (fun x => x) (fun x => x) = (chN p n out name).map Int.ofNat
  | 0, out, name, hn, hw => by
    exfalso
    have := nodup_len p.length out hw.nd hw.lt
    omega
  | n + 1, out, name, hn, hw => by
    have hout : (out.map Int.ofNat).length < 9223372036854775806 := by simp; omega
    have hroom : ∀ z : Int, room (((out.map Int.ofNat).length : Int) + (([z].length : Nat) : Int)) 8 = some () := fun z => room_ok (by simp; omega)
    simp only [ref14_Chain_L1]
    cases hf : fi p name with
    | none =>
      rw [fnd_none hf]
      refine ⟨.next (out.map Int.ofNat), rfl, ?_⟩
      simp [chN, hf, Ctl.elim]
    | some i =>
      rw [fnd_some hf, has_eq hout]
      obtain ⟨c, hc, _⟩ := fi_spec hf
      have hidx : idx p (i : Int) = some c := by rw [idx_nat]; exact hc
      have hsup : sup p i = c.fSuper := by unfold sup; rw [hc]
      have hd : decide ((i : Int) ≥ 0) = true := by simp
      rw [if_pos hd]
      simp only [chN, hf, obs, hroom, hidx]
      by_cases hi : i ∈ out
      · rw [if_neg (by simpa using mem_cast.2 hi), if_pos hi]
        exact ⟨_, rfl, rfl⟩
      · have hni : ¬ (i : Int) ∈ out.map Int.ofNat := fun h => hi (mem_cast.1 h)
        rw [if_pos (by simpa using hni), if_neg hi]
        have hcat : out.map Int.ofNat ++ [(i : Int)] = (out ++ [i]).map Int.ofNat := by simp
        rw [hcat, hsup]
        by_cases hs : (c.fSuper == []) = true
        · rw [if_pos hs, if_pos hs]
          exact ⟨_, rfl, rfl⟩
        · rw [if_neg hs, if_neg hs, ref13_Find_eq (by omega)]
          simp only [obs]
          have hs' : sup p i ≠ [] := by rw [hsup]; simpa using hs
          have := refChain_L hp n (out ++ [i]) (sup p i) (by simp; omega) (hw.snoc hf hi hs')
          rw [hsup] at this
          exact this
theorem ref_Chain_eq {p : List GClass} (hp : p.length ≤ 1000000) (name : List UInt8) : ref14_Chain p name = some ((ch p name).map Int.ofNat) := by
  unfold ref14_Chain
  rw [ref13_Find_eq (by omega)]
  obtain ⟨r, h1, h2⟩ := refChain_L hp (p.length + 1) [] name (by simp) (Way.nil p name)
  simp only [obs]
  rw [show p.length + 2 = p.length + 1 + 1 from rfl, show ([] : List Int) = ([] : List Nat).map Int.ofNat from rfl, h1]
  unfold ch
  rw [← h2]
  cases r <;> rfl

/-- Is class `b` at or above class `a`? -/
def bel (p : List GClass) (a b : List UInt8) : Bool := match fi p b with | some j => decide (j ∈ ch p a) | none => false
theorem fnd_mem {p : List GClass} {b : List UInt8} (l : List Nat) : decide (fnd p b ∈ l.map Int.ofNat) = match fi p b with | some j => decide (j ∈ l) | none => false := by
  cases hf : fi p b with
  | none =>
    rw [fnd_none hf]
    simp only [decide_eq_false_iff_not]
    intro h
    obtain ⟨j, _, hj⟩ := List.mem_map.1 h
    have : (0 : Int) ≤ Int.ofNat j := Int.natCast_nonneg j
    omega
  | some j =>
    rw [fnd_some hf]
    simp only [mem_cast]

theorem ref_Below_eq {p : List GClass} (hp : p.length ≤ 1000000) (a b : List UInt8) : ref14_Below p a b = some (bel p a b) := by
  unfold ref14_Below
  rw [ref13_Find_eq (by omega)]
  have hcl : ((ch p a).map Int.ofNat).length < 9223372036854775806 := by have := ch_len p a; simp; omega
  simp only [obs, ref_Chain_eq hp, has_eq hcl, fnd_mem]
  unfold bel
  cases hf : fi p b with
  | none => rw [fnd_none hf]; rfl
  | some j => rw [fnd_some hf, if_pos (by simp)]

/-! ### Which program's chains go round. -/
def cyc (p : List GClass) (c : GClass) : Bool := decide ((upN p (p.length + 1) c.fName).length = p.length + 1)
def chk (p : List GClass) : GFault := match p.find? (cyc p) with | some c => { fErr := 9, fAt := c.fAt } | none => { fErr := 0, fAt := 0 }
theorem upN_le (p : List GClass) : ∀ (n : Nat) (name : List UInt8), (upN p n name).length ≤ n
  | 0, name => by simp [upN]
  | n + 1, name => by
    simp only [upN]
    cases fi p name with
    | none => simp
    | some i =>
      simp only
      split
      · simp
      · have := upN_le p n (sup p i); simp; omega

theorem ref_Check_L {p : List GClass} (hp : p.length ≤ 1000000) : ∀ (n k : Nat), n + k = p.length + 1 → k ≤ p.length →
    ref14_Check_L1 p n (k : Int) = some (match (p.drop k).find? (cyc p) with | some c => .stop { fErr := 9, fAt := c.fAt } | none => .next ())
  | 0, k, h, hk => by omega
  | n + 1, k, h, hk => by
    simp only [ref14_Check_L1]
    by_cases hlt : k < p.length
    · rw [if_pos (by simpa using hlt), idx_lt hlt, List.drop_eq_getElem_cons hlt]
      simp only [obs, ref_Chain_eq hp]
      obtain ⟨i0, hi0⟩ := fi_some (List.getElem_mem hlt)
      have hne := ch_ne hi0
      have hlen := ch_len p p[k].fName
      obtain ⟨_, _, _, _, _, _, k7, k8⟩ := ch_facts p p[k].fName
      obtain ⟨x, hx⟩ : ∃ x, (ch p p[k].fName).getLast? = some x := by
        cases hl : (ch p p[k].fName).getLast? with
        | none => exact absurd (List.getLast?_eq_none_iff.1 hl) hne
        | some x => exact ⟨x, rfl⟩
      have hpos : 0 < (ch p p[k].fName).length := List.length_pos_iff.2 hne
      have hxm := List.mem_of_getLast? hx
      have hlast : idx ((ch p p[k].fName).map Int.ofNat) (w_i64 ((((ch p p[k].fName).map Int.ofNat).length : Int) - 1)) = some (x : Int) := by
        rw [List.length_map, w64 (by omega) (by omega), show ((ch p p[k].fName).length : Int) - 1 = (((ch p p[k].fName).length - 1 : Nat) : Int) by omega, idx_nat, List.getElem?_map]
        rw [List.getLast?_eq_getElem?] at hx
        rw [hx]; rfl
      rw [hlast]
      have hxl := (k7 x hxm).1
      have hidx : idx p (x : Int) = some p[x] := idx_lt hxl
      have hsx : sup p x = p[x].fSuper := by unfold sup; rw [List.getElem?_eq_getElem hxl]
      simp only [obs, hidx, List.find?_cons]
      have hb : cyc p p[k] = (!(p[x].fSuper == []) && decide (fnd p p[x].fSuper ∈ (ch p p[k].fName).map Int.ofNat)) := by
        unfold cyc
        rw [← k8]
        unfold back
        rw [hx]
        simp only [hsx]
        congr 1
        cases hf : fi p p[x].fSuper with
        | none =>
          rw [fnd_none hf]
          symm
          simp only [decide_eq_false_iff_not]
          intro h
          obtain ⟨j, _, hj⟩ := List.mem_map.1 h
          have : (0 : Int) ≤ Int.ofNat j := Int.natCast_nonneg j
          omega
        | some j =>
          rw [fnd_some hf]
          simp only [mem_cast]
      rw [hb]
      have hcl : ((ch p p[k].fName).map Int.ofNat).length < 9223372036854775806 := by simp; omega
      by_cases hs : (!(p[x].fSuper == [])) = true
      · rw [if_pos hs, hs, ref13_Find_eq (by omega)]
        simp only [obs, has_eq hcl, Bool.true_and]
        by_cases hm : fnd p p[x].fSuper ∈ (ch p p[k].fName).map Int.ofNat
        · rw [if_pos (by simpa using hm), decide_eq_true hm]
        · rw [if_neg (by simpa using hm), decide_eq_false hm, w64_succ hlt (by omega)]
          exact ref_Check_L hp n (k + 1) (by omega) (by omega)
      · rw [if_neg hs]
        have hs2 : (!(p[x].fSuper == [])) = false := by simpa using hs
        simp only [obs]
        rw [hs2, Bool.false_and, w64_succ hlt (by omega), if_neg (by simp)]
        exact ref_Check_L hp n (k + 1) (by omega) (by omega)
    · rw [if_neg (by simpa using hlt), List.drop_eq_nil_of_le (by omega)]
      rfl
theorem ref_Check_eq {p : List GClass} (hp : p.length ≤ 1000000) : ref14_Check p = some (chk p) := by
  unfold ref14_Check
  have h := ref_Check_L hp (p.length + 1) 0 (by omega) (by omega)
  rw [show (((p.length : Int) : Int) - (0)).toNat + 1 = p.length + 1 by omega, show (0 : Int) = ((0 : Nat) : Int) from rfl, h]
  simp only [obs, List.drop_zero]
  unfold chk
  cases p.find? (cyc p) <;> rfl

theorem upN_fi {p : List GClass} {a b : List UInt8} (h : fi p a = fi p b) : ∀ n, upN p n a = upN p n b
  | 0 => rfl
  | n + 1 => by simp only [upN, h]
theorem upN_more {p : List GClass} : ∀ (n : Nat) (name : List UInt8), (upN p n name).length < n → upN p (n + 1) name = upN p n name
  | 0, name, h => by simp at h
  | n + 1, name, h => by
    simp only [upN] at h
    cases hf : fi p name with
    | none => simp only [upN, hf]
    | some i =>
      rw [hf] at h
      simp only at h
      by_cases hs : (sup p i == []) = true
      · simp only [upN, hf, hs, if_true]
      · rw [if_neg hs] at h
        simp only [List.length_cons] at h
        have ih := upN_more (p := p) n (sup p i) (by omega)
        rw [show upN p (n + 1 + 1) name = (if (sup p i == []) = true then [i] else i :: upN p (n + 1) (sup p i)) by simp only [upN, hf], show upN p (n + 1) name = (if (sup p i == []) = true then [i] else i :: upN p n (sup p i)) by simp only [upN, hf], ih]
theorem upN_later {p : List GClass} : ∀ (n : Nat) (name nm : List UInt8) (k : Nat), (upN p n name).length < n → k ∈ upN p n name → fi p nm = some k → fi p name ≠ some k → (upN p n nm).length < (upN p n name).length
  | 0, name, nm, k, h, _, _, _ => by simp at h
  | n + 1, name, nm, k, h, hk, hnm, hne => by
    simp only [upN] at h hk
    cases hf : fi p name with
    | none => rw [hf] at hk; simp at hk
    | some i =>
      have hik : i ≠ k := fun e => hne (by rw [hf, e])
      rw [hf] at h hk
      simp only at h hk
      by_cases hs : (sup p i == []) = true
      · rw [if_pos hs] at hk
        simp at hk; exact absurd hk.symm hik
      · rw [if_neg hs] at h hk
        simp only [List.length_cons] at h
        have hlt : (upN p n (sup p i)).length < n := by omega
        have hk2 : k ∈ upN p n (sup p i) := (List.mem_cons.1 hk).resolve_left (fun e => hik e.symm)
        have e1 : upN p (n + 1) name = i :: upN p n (sup p i) := by simp only [upN, hf, if_neg hs]
        rw [e1]
        simp only [List.length_cons]
        by_cases he : fi p (sup p i) = some k
        · have : upN p n nm = upN p n (sup p i) := upN_fi (by rw [hnm, he]) n
          have hm := upN_more (p := p) n nm (by rw [this]; exact hlt)
          rw [hm, this]; omega
        · have ih := upN_later (p := p) n (sup p i) nm k hlt hk2 hnm he
          have hm := upN_more (p := p) n nm (by omega)
          rw [hm]; omega
theorem antisym {p : List GClass} {a b : List UInt8} (hab : a ≠ b) (h1 : bel p a b = true) (h2 : bel p b a = true) : (chk p).fErr ≠ 0 := by
  unfold bel at h1 h2
  cases hb : fi p b with
  | none => rw [hb] at h1; cases h1
  | some j =>
    cases ha : fi p a with
    | none => rw [ha] at h2; cases h2
    | some i =>
      rw [hb] at h1; rw [ha] at h2
      have hj : j ∈ upN p (p.length + 1) a := mem_up.2 (of_decide_eq_true h1)
      have hi : i ∈ upN p (p.length + 1) b := mem_up.2 (of_decide_eq_true h2)
      obtain ⟨ca, hca, hcan⟩ := fi_spec ha
      obtain ⟨cb, hcb, hcbn⟩ := fi_spec hb
      have hij : i ≠ j := by
        rintro rfl
        rw [hca] at hcb; cases hcb
        exact hab (hcan.symm.trans hcbn)
      have hfull : (upN p (p.length + 1) a).length = p.length + 1 := by
        have hle := upN_le p (p.length + 1) a
        rcases Nat.lt_or_ge (upN p (p.length + 1) a).length (p.length + 1) with hlt | hge
        · have l1 := upN_later _ a b j hlt hj hb (by rw [ha]; intro e; cases e; exact hij rfl)
          have l2 := upN_later _ b a i (by omega) hi ha (by rw [hb]; intro e; cases e; exact hij rfl)
          omega
        · omega
      have hcy : cyc p ca = true := by
        unfold cyc
        rw [hcan]
        exact decide_eq_true hfull
      have hmem : ca ∈ p := List.mem_of_getElem? hca
      unfold chk
      cases hf : p.find? (cyc p) with
      | some c => simp
      | none =>
        rw [List.find?_eq_none] at hf
        exact absurd hcy (hf ca hmem)

theorem upN_suf {p : List GClass} : ∀ (n : Nat) (name nm : List UInt8) (k : Nat), (upN p n name).length < n → k ∈ upN p n name → fi p nm = some k → ∃ pre, upN p n name = pre ++ upN p n nm ∧ k ∉ pre
  | 0, name, nm, k, h, _, _ => by simp at h
  | n + 1, name, nm, k, h, hk, hnm => by
    cases hf : fi p name with
    | none => simp only [upN, hf] at hk; simp at hk
    | some i =>
      by_cases hik : i = k
      · subst hik
        exact ⟨[], by rw [upN_fi (show fi p name = fi p nm by rw [hf, hnm])]; rfl, by simp⟩
      · by_cases hs : (sup p i == []) = true
        · simp only [upN, hf, hs, if_true] at hk
          simp at hk; exact absurd hk.symm hik
        · have e1 : upN p (n + 1) name = i :: upN p n (sup p i) := by simp only [upN, hf, if_neg hs]
          rw [e1] at h hk
          simp only [List.length_cons] at h
          obtain ⟨pre, h1, h2⟩ := upN_suf n (sup p i) nm k (by omega) ((List.mem_cons.1 hk).resolve_left (fun e => hik e.symm)) hnm
          have hl : (upN p n nm).length < n := by
            have := congrArg List.length h1
            rw [List.length_append] at this; omega
          refine ⟨i :: pre, by rw [e1, upN_more n nm hl, h1]; rfl, ?_⟩
          simp only [List.mem_cons, not_or]
          exact ⟨fun e => hik e.symm, h2⟩

theorem acyclic {p : List GClass} (h : (chk p).fErr = 0) {a : List UInt8} {i : Nat} (ha : fi p a = some i) : (upN p (p.length + 1) a).length < p.length + 1 := by
  obtain ⟨c, hc, hcn⟩ := fi_spec ha
  have hle := upN_le p (p.length + 1) a
  rcases Nat.lt_or_ge (upN p (p.length + 1) a).length (p.length + 1) with h1 | h1
  · exact h1
  · exfalso
    unfold chk at h
    cases hf : p.find? (cyc p) with
    | some d => rw [hf] at h; simp at h
    | none =>
      rw [List.find?_eq_none] at hf
      refine hf c (List.mem_of_getElem? hc) ?_
      unfold cyc
      rw [hcn]
      exact decide_eq_true (by omega)

/-! ### The whole way up, where nothing is above itself. -/
theorem upN_add {p : List GClass} {n : Nat} {name : List UInt8} (h : (upN p n name).length < n) : ∀ d, upN p (n + d) name = upN p n name
  | 0 => rfl
  | d + 1 => by
    have ih := upN_add h d
    rw [show n + (d + 1) = n + d + 1 from rfl, upN_more (n + d) name (by rw [ih]; omega), ih]
theorem upN_tail {p : List GClass} {n : Nat} {name : List UInt8} {i : Nat} (hf : fi p name = some i) : upN p (n + 1) name = if (sup p i == []) = true then [i] else i :: upN p n (sup p i) := by simp only [upN, hf]
theorem upN_nodup {p : List GClass} : ∀ (n : Nat) (name : List UInt8), (upN p n name).length < n → (upN p n name).Nodup
  | 0, name, h => by simp at h
  | n + 1, name, h => by
    cases hf : fi p name with
    | none => simp only [upN, hf]; exact List.nodup_nil
    | some i =>
      have ht := upN_tail (n := n) hf
      rw [ht] at h ⊢
      by_cases hs : (sup p i == []) = true
      · rw [if_pos hs]; simp
      · rw [if_neg hs] at h ht ⊢
        simp only [List.length_cons] at h
        have hl : (upN p n (sup p i)).length < n := by omega
        refine List.nodup_cons.2 ⟨fun hm => ?_, upN_nodup n _ hl⟩
        have hlt : (upN p n name).length ≤ (upN p n (sup p i)).length := by
          by_cases he : fi p (sup p i) = some i
          · rw [upN_fi (show fi p name = fi p (sup p i) by rw [hf, he])]; omega
          · have := upN_later n (sup p i) name i hl hm hf he; omega
        have := upN_more (p := p) n name (by omega)
        rw [ht] at this
        have := congrArg List.length this
        simp only [List.length_cons] at this
        omega
theorem chN_up {p : List GClass} : ∀ (n : Nat) (out : List Nat) (name : List UInt8), (upN p n name).length < n → (out ++ upN p n name).Nodup → chN p n out name = out ++ upN p n name
  | 0, out, name, h, _ => by simp at h
  | n + 1, out, name, h, hn => by
    cases hf : fi p name with
    | none => simp only [chN, upN, hf]; simp
    | some i =>
      have ht := upN_tail (n := n) hf
      rw [ht] at h hn ⊢
      by_cases hs : (sup p i == []) = true
      · rw [if_pos hs] at hn ⊢
        have hi : i ∉ out := fun hm => by
          rw [List.nodup_append] at hn; exact hn.2.2 i hm i (by simp) rfl
        simp only [chN, hf]
        rw [if_neg hi, if_pos hs]
      · rw [if_neg hs] at h hn ⊢
        simp only [List.length_cons] at h
        have hi : i ∉ out := fun hm => by
          rw [List.nodup_append] at hn; exact hn.2.2 i hm i (by simp) rfl
        simp only [chN, hf]
        rw [if_neg hi, if_neg hs, chN_up n _ _ (by omega) (by simpa using hn)]
        simp
theorem ch_up {p : List GClass} {name : List UInt8} (h : (upN p (p.length + 1) name).length < p.length + 1) : ch p name = upN p (p.length + 1) name := by
  unfold ch
  rw [chN_up _ [] name h (by simpa using upN_nodup _ _ h)]; rfl

/-! ### What never fails. -/
def Tot {α : Type} (o : Option α) : Prop := ∃ r, o = some r
theorem tot_some {α : Type} (x : α) : Tot (some x) := ⟨x, rfl⟩
theorem tot_bind {α β : Type} {a : Option α} {f : α → Option β} (h : Tot a) (h2 : ∀ x, a = some x → Tot (f x)) : Tot (Option.bind a f) := by
  obtain ⟨x, rfl⟩ := h
  exact h2 x rfl
theorem tot_ite {α : Type} {b : Bool} {x y : Option α} (h1 : b = true → Tot x) (h2 : b = false → Tot y) : Tot (if b = true then x else y) := by
  cases b with
  | true => exact h1 rfl
  | false => exact h2 rfl
theorem tot_elim {R S α : Type} {r : Ctl R S} {f : R → Option α} {g : S → Option α} (h1 : ∀ v, Tot (f v)) (h2 : ∀ s, Tot (g s)) : Tot (Ctl.elim r f g) := by
  cases r with
  | stop v => exact h1 v
  | next s => exact h2 s
theorem tot_loop1 {ρ : Type} (F : Nat → Int → Option ρ) (len : Nat) (h1 : ∀ (n k : Nat), k < len → Tot (F n ((k + 1 : Nat) : Int)) → Tot (F (n + 1) (k : Int))) (h2 : ∀ (n k : Nat), ¬ k < len → Tot (F (n + 1) (k : Int))) :
    ∀ (n k : Nat), n + k = len + 1 → k ≤ len → Tot (F n (k : Int))
  | 0, k, h, hk => by omega
  | n + 1, k, h, hk => by
    by_cases hlt : k < len
    · exact h1 n k hlt (tot_loop1 F len h1 h2 n (k + 1) (by omega) (by omega))
    · exact h2 n k hlt
theorem tot_loop2 {σ ρ : Type} (F : Nat → σ → Int → Option ρ) (len : Nat) (h1 : ∀ (n k : Nat) (s : σ), k < len → (∀ s', Tot (F n s' ((k + 1 : Nat) : Int))) → Tot (F (n + 1) s (k : Int))) (h2 : ∀ (n k : Nat) (s : σ), ¬ k < len → Tot (F (n + 1) s (k : Int))) :
    ∀ (n k : Nat) (s : σ), n + k = len + 1 → k ≤ len → Tot (F n s (k : Int))
  | 0, k, s, h, hk => by omega
  | n + 1, k, s, h, hk => by
    by_cases hlt : k < len
    · exact h1 n k s hlt (fun s' => tot_loop2 F len h1 h2 n (k + 1) s' (by omega) (by omega))
    · exact h2 n k s hlt
theorem fuel_len (m : Nat) : (((m : Int) : Int) - (0)).toNat + 1 = m + 1 := by omega

/-! ### What never fails, and what it then gives. -/
def TP {α : Type} (Q : α → Prop) (o : Option α) : Prop := ∃ r, o = some r ∧ Q r
theorem tp_some {α : Type} {Q : α → Prop} {x : α} (h : Q x) : TP Q (some x) := ⟨x, rfl, h⟩
theorem tp_bind {α β : Type} {R : α → Prop} {Q : β → Prop} {a : Option α} {f : α → Option β} (h : TP R a) (h2 : ∀ x, R x → TP Q (f x)) : TP Q (Option.bind a f) := by
  obtain ⟨x, rfl, hx⟩ := h
  exact h2 x hx
theorem tp_ite {α : Type} {Q : α → Prop} {b : Bool} {x y : Option α} (h1 : b = true → TP Q x) (h2 : b = false → TP Q y) : TP Q (if b = true then x else y) := by
  cases b with
  | true => exact h1 rfl
  | false => exact h2 rfl
theorem tp_elim {R S α : Type} {Q : α → Prop} {r : Ctl R S} {f : R → Option α} {g : S → Option α} (h1 : ∀ v, TP Q (f v)) (h2 : ∀ s, TP Q (g s)) : TP Q (Ctl.elim r f g) := by
  cases r with
  | stop v => exact h1 v
  | next s => exact h2 s
theorem tp_of {α : Type} {o : Option α} (h : Tot o) : TP (fun _ => True) o := by obtain ⟨r, h⟩ := h; exact ⟨r, h, trivial⟩
theorem tot_of {α : Type} {Q : α → Prop} {o : Option α} (h : TP Q o) : Tot o := by obtain ⟨r, h, _⟩ := h; exact ⟨r, h⟩
theorem tp_loop {σ ρ : Type} {Q : ρ → Prop} (F : Nat → σ → Int → Option ρ) (len : Nat) (I : Nat → σ → Prop) (h1 : ∀ (n k : Nat) (s : σ), k < len → I k s → (∀ s', I (k + 1) s' → TP Q (F n s' ((k + 1 : Nat) : Int))) → TP Q (F (n + 1) s (k : Int))) (h2 : ∀ (n : Nat) (s : σ), I len s → TP Q (F (n + 1) s (len : Int))) :
    ∀ (n k : Nat) (s : σ), n + k = len + 1 → k ≤ len → I k s → TP Q (F n s (k : Int))
  | 0, k, s, h, hk, _ => by omega
  | n + 1, k, s, h, hk, hi => by
    by_cases hlt : k < len
    · exact h1 n k s hlt hi (fun s' hs' => tp_loop F len I h1 h2 n (k + 1) s' (by omega) (by omega) hs')
    · have : k = len := by omega
      subst this
      exact h2 n s hi
theorem lsum_mem {α : Type} {u : α → Nat} {l : List α} {y : α} : y ∈ l → u y ≤ lsum u l := by
  induction l with
  | nil => intro h; simp at h
  | cons x l ih =>
    intro h
    simp only [lsum]
    rcases List.mem_cons.1 h with rfl | h
    · omega
    · have := ih h; omega
theorem len_lsum {α : Type} {u : α → Nat} (h : ∀ y, 1 ≤ u y) : ∀ l : List α, l.length ≤ lsum u l
  | [] => Nat.le_refl _
  | x :: l => by simp only [lsum, List.length_cons]; have := h x; have := len_lsum h l; omega
theorem lsum_le {α : Type} {u v : α → Nat} : ∀ {l : List α}, (∀ y ∈ l, u y ≤ v y) → lsum u l ≤ lsum v l
  | [], _ => Nat.le_refl _
  | x :: l, h => by simp only [lsum]; have := h x (by simp); have := lsum_le (l := l) (fun y hy => h y (by simp [hy])); omega
theorem lsum_drop {α : Type} (u : α → Nat) {l : List α} {k : Nat} (h : k < l.length) : lsum u (l.drop k) = u l[k] + lsum u (l.drop (k + 1)) := by rw [List.drop_eq_getElem_cons h]; rfl

/-! ### What a program counts. -/
theorem u1_str (s : List UInt8) : 1 ≤ List.length s + 1 := by omega
theorem u1_O (x : GOwner) : 1 ≤ uGOwner x := by unfold uGOwner; omega
theorem u1_T (x : GType) : 1 ≤ uGType x := by unfold uGType; omega
theorem u1_V (x : GVar) : 1 ≤ uGVar x := by unfold uGVar; omega
theorem u1_E (x : GExpr) : 1 ≤ uGExpr x := by rw [uGExpr_eq]; omega
theorem u1_S (x : GStmt) : 1 ≤ uGStmt x := by rw [uGStmt_eq]; omega
theorem u1_M (x : GMethod) : 1 ≤ uGMethod x := by unfold uGMethod; omega
theorem u1_C (x : GClass) : 1 ≤ uGClass x := by unfold uGClass; omega
theorem uT_p (x : GType) : x.fClass.length < uGType x := by unfold uGType; omega
theorem uV_p (x : GVar) : x.fName.length < uGVar x ∧ uGType x.fType < uGVar x := by unfold uGVar; omega
theorem uE_p (x : GExpr) : x.fName.length < uGExpr x ∧ lsum uGExpr x.fKids < uGExpr x := by rw [uGExpr_eq]; omega
theorem uS_p (x : GStmt) : x.fX.length < uGStmt x ∧ x.fY.length < uGStmt x ∧ x.fName.length < uGStmt x ∧ uGType x.fType < uGStmt x ∧ uGExpr x.fE < uGStmt x ∧ lsum uGExpr x.fArgs < uGStmt x ∧ 1 + lsum uGStmt x.fBody + lsum uGStmt x.fElse < uGStmt x := by rw [uGStmt_eq]; omega
theorem uM_p (x : GMethod) : x.fName.length < uGMethod x ∧ uGType x.fRet < uGMethod x ∧ 1 + lsum uGVar x.fParams + lsum uGVar x.fLocals + lsum uGStmt x.fBody < uGMethod x := by unfold uGMethod; omega
theorem uC_p (x : GClass) : x.fName.length < uGClass x ∧ lsum (fun s => List.length s + 1) x.fParams < uGClass x ∧ x.fSuper.length < uGClass x ∧ lsum uGOwner x.fAbove < uGClass x ∧ lsum uGVar x.fFields + lsum uGMethod x.fMethods < uGClass x := by unfold uGClass; omega
theorem mLE_sum : ∀ l : List GExpr, mLGExpr l = lsum mGExpr l
  | [] => by simp only [mLGExpr, lsum]
  | x :: l => by simp only [mLGExpr, lsum, mLE_sum l]
theorem mLS_sum : ∀ l : List GStmt, mLGStmt l = lsum mGStmt l
  | [] => by simp only [mLGStmt, lsum]
  | x :: l => by simp only [mLGStmt, lsum, mLS_sum l]
theorem mE_eq (e : GExpr) : mGExpr e = 1 + lsum mGExpr e.fKids := by rw [← mLE_sum]; cases e; simp only [mGExpr]
theorem mS_eq (e : GStmt) : mGStmt e = 1 + mGExpr e.fE + lsum mGExpr e.fArgs + lsum mGStmt e.fBody + lsum mGStmt e.fElse := by rw [← mLS_sum, ← mLS_sum, ← mLE_sum]; cases e; simp only [mGStmt]
theorem mE_u : ∀ (n : Nat) (e : GExpr), mGExpr e ≤ n → mGExpr e ≤ uGExpr e
  | 0, e, h => by rw [mE_eq] at h; omega
  | n + 1, e, h => by
    rw [mE_eq] at h
    rw [mE_eq]
    have := (uE_p e).2
    have := lsum_le (u := mGExpr) (v := uGExpr) (l := e.fKids) (fun y hy => mE_u n y (by have := lsum_mem (u := mGExpr) hy; omega))
    omega
theorem mE_le (e : GExpr) : mGExpr e ≤ uGExpr e := mE_u _ e (Nat.le_refl _)
theorem mS_u : ∀ (n : Nat) (e : GStmt), mGStmt e ≤ n → mGStmt e ≤ uGStmt e
  | 0, e, h => by rw [mS_eq] at h; omega
  | n + 1, e, h => by
    rw [mS_eq] at h
    rw [mS_eq, uGStmt_eq]
    have h1 := lsum_le (u := mGExpr) (v := uGExpr) (l := e.fArgs) (fun y _ => mE_le y)
    have h2 := lsum_le (u := mGStmt) (v := uGStmt) (l := e.fBody) (fun y hy => mS_u n y (by have := lsum_mem (u := mGStmt) hy; omega))
    have h3 := lsum_le (u := mGStmt) (v := uGStmt) (l := e.fElse) (fun y hy => mS_u n y (by have := lsum_mem (u := mGStmt) hy; omega))
    have h4 := mE_le e.fE
    omega
theorem mS_le (e : GStmt) : mGStmt e ≤ uGStmt e := mS_u _ e (Nat.le_refl _)

/-! ### The document's words, types, expressions, statements: never a failure. -/
theorem tot_Letter (b : Int) : Tot (ref02_Letter b) := by
  unfold ref02_Letter
  repeat (first | exact tot_some _ | refine tot_ite (fun _ => ?_) fun _ => ?_)
theorem tot_Digit (b : Int) : Tot (ref02_Digit b) := by
  unfold ref02_Digit
  repeat (first | exact tot_some _ | refine tot_ite (fun _ => ?_) fun _ => ?_)
theorem tot_Find (s : List UInt8) : Tot (ref02_Find s) := by
  unfold ref02_Find
  refine tot_bind (show Tot ref02_Words from tot_some _) fun W hW => ?_
  have hl : W.length ≤ 9223372036854775807 := by unfold ref02_Words at hW; cases hW; simp
  rw [fuel_len]
  refine tot_bind ?_ fun _ _ => tot_elim (fun _ => tot_some _) fun _ => tot_some _
  refine tot_loop1 (ref02_Find_L1 s W) W.length (fun m k hlt ih => ?_) (fun m k hlt => ?_) _ 0 (by omega) (by omega)
  · rw [ref02_Find_L1, if_pos (by simpa using hlt), idx_lt hlt, w64_succ hlt hl, obs]
    exact tot_ite (fun _ => tot_some _) fun _ => ih
  · rw [ref02_Find_L1, if_neg (by simpa using hlt)]; exact tot_some _
theorem tot_Name {s : List UInt8} (h : s.length ≤ 9223372036854775807) : Tot (ref02_Name s) := by
  unfold ref02_Name
  rw [fuel_len]
  refine tot_bind (tot_ite (fun _ => tot_some _) fun h1 => tot_ite (fun _ => tot_some _) fun _ => ?_) fun _ _ => tot_ite (fun _ => tot_some _) fun _ => tot_bind ?_ fun _ _ => tot_elim (fun _ => tot_some _) fun _ => tot_some _
  · have h0 : 0 < s.length := by simp at h1; omega
    rw [show (0 : Int) = ((0 : Nat) : Int) from rfl, idx_lt h0, obs]
    exact tot_bind (tot_Letter _) fun _ _ => tot_ite (fun _ => tot_some _) fun _ => tot_bind (tot_Find _) fun _ _ => tot_some _
  · refine tot_loop1 (ref02_Name_L1 s) s.length (fun m k hlt ih => ?_) (fun m k hlt => ?_) _ 0 (by omega) (by omega)
    · rw [ref02_Name_L1, if_pos (by simpa using hlt), idx_lt hlt, w64_succ hlt h]
      simp only [obs]
      exact tot_bind (tot_bind (tot_Letter _) fun _ _ => tot_ite (fun _ => tot_bind (tot_Digit _) fun _ _ => tot_some _) fun _ => tot_some _) fun _ _ => tot_ite (fun _ => tot_some _) fun _ => ih
    · rw [ref02_Name_L1, if_neg (by simpa using hlt)]; exact tot_some _
theorem tot_ORight (o : GOwner) (n : Int) : Tot (ref04_Right o n) := by
  unfold ref04_Right
  repeat (first | exact tot_some _ | refine tot_ite (fun _ => ?_) fun _ => ?_)
theorem tot_TRight {t : GType} (n : Int) (h : t.fClass.length ≤ 9223372036854775807) : Tot (ref05_Right t n) := by
  unfold ref05_Right
  rw [show (((4 : Int) : Int) - (0)).toNat + 1 = t.fOwn.l.length + 1 from rfl]
  refine tot_bind (tot_ite (fun _ => tot_some _) fun _ => tot_some _) fun _ _ => tot_ite (fun _ => tot_some _) fun _ => tot_bind ?_ fun _ _ => tot_ite (fun _ => tot_some _) fun _ => tot_bind ?_ fun _ _ => tot_elim (fun _ => tot_some _) fun _ => tot_some _
  · exact tot_ite (fun _ => tot_some _) fun _ => tot_bind (tot_Name h) fun _ _ => tot_ite (fun _ => tot_some _) fun _ => tot_ite (fun _ => tot_some _) fun _ => tot_some _
  · refine tot_loop1 (ref05_Right_L1 t n) t.fOwn.l.length (fun m k hlt ih => ?_) (fun m k hlt => ?_) _ 0 (by omega) (by omega)
    · have h4 : t.fOwn.l.length = 4 := rfl
      rw [ref05_Right_L1, if_pos (by simp; omega), idx_lt hlt, w64_succ hlt (by omega), obs]
      refine tot_bind ?_ fun _ _ => tot_ite (fun _ => tot_some _) fun _ => ih
      repeat (first | exact tot_some _ | exact tot_ORight _ _ | refine tot_ite (fun _ => ?_) fun _ => ?_ | refine tot_bind ?_ fun _ _ => ?_)
    · have h4 : t.fOwn.l.length = 4 := rfl
      rw [ref05_Right_L1, if_neg (by simp; omega)]; exact tot_some _
theorem tot_ESame : ∀ (n : Nat) (a b : GExpr), mGExpr a < n → n ≤ 9223372036854775807 → Tot (ref06_Same n a b)
  | 0, a, b, h, _ => by omega
  | n + 1, a, b, h, hn => by
    rw [mE_eq] at h
    have hl := len_lsum (u := mGExpr) (fun y => by rw [mE_eq]; omega) a.fKids
    simp only [ref06_Same, fuel_len]
    by_cases hk : ((a.fKids.length : Int) != (b.fKids.length : Int)) = true
    · refine tot_bind (a := _) (f := _) ?_ fun x hx => tot_ite (fun _ => tot_some _) fun hf => ?_
      · exact tot_ite (fun _ => tot_some _) fun _ => tot_ite (fun _ => tot_some _) fun _ => tot_ite (fun _ => tot_some _) fun _ => tot_some _
      · exfalso
        subst hf
        rw [hk] at hx
        revert hx
        split
        · intro h; cases h
        · split
          · intro h; cases h
          · split
            · intro h; cases h
            · intro h; cases h
    · have hlen : a.fKids.length = b.fKids.length := by simp at hk; omega
      refine tot_bind (tot_ite (fun _ => tot_some _) fun _ => tot_ite (fun _ => tot_some _) fun _ => tot_ite (fun _ => tot_some _) fun _ => tot_some _) fun _ _ => tot_ite (fun _ => tot_some _) fun _ => tot_bind ?_ fun _ _ => tot_elim (fun _ => tot_some _) fun _ => tot_some _
      refine tot_loop1 (ref06_Same_L1 a b (ref06_Same n)) a.fKids.length (fun m k hlt ih => ?_) (fun m k hlt => ?_) _ 0 (by omega) (by omega)
      · rw [ref06_Same_L1, if_pos (by simpa using hlt), idx_lt hlt, idx_lt (show k < b.fKids.length by omega), w64_succ hlt (by omega), obs, obs]
        have := lsum_mem (u := mGExpr) (List.getElem_mem hlt)
        exact tot_bind (tot_ESame n _ _ (by omega) (by omega)) fun _ _ => tot_ite (fun _ => tot_some _) fun _ => ih
      · rw [ref06_Same_L1, if_neg (by simpa using hlt)]; exact tot_some _
theorem tot_kids6 (k : Int) : Tot (ref06_kids k) := by
  unfold ref06_kids
  repeat (first | exact tot_some _ | refine tot_ite (fun _ => ?_) fun _ => ?_ | refine tot_bind ?_ fun _ _ => ?_)
theorem tot_Eform : ∀ (n : Nat) (e : GExpr), mGExpr e < n → uGExpr e ≤ 1048576 → Tot (ref06_form n e)
  | 0, e, h, _ => by omega
  | n + 1, e, h, hu => by
    rw [mE_eq] at h
    have hp := uE_p e
    have hl := len_lsum u1_E e.fKids
    have hN : Tot (ref02_Name e.fName) := tot_Name (by omega)
    simp only [ref06_form, fuel_len]
    refine tot_bind ?_ fun _ _ => tot_ite (fun _ => tot_some _) fun _ => tot_bind ?_ fun _ _ => tot_elim (fun _ => tot_some _) fun _ => tot_some _
    · repeat (first | exact tot_some _ | exact hN | exact tot_kids6 _ | refine tot_ite (fun _ => ?_) fun _ => ?_ | refine tot_bind ?_ fun _ _ => ?_)
    · refine tot_loop1 (ref06_form_L1 e (ref06_form n)) e.fKids.length (fun m k hlt ih => ?_) (fun m k hlt => ?_) _ 0 (by omega) (by omega)
      · rw [ref06_form_L1, if_pos (by simpa using hlt), idx_lt hlt, w64_succ hlt (by omega), obs, obs]
        have h1 := lsum_mem (u := mGExpr) (List.getElem_mem hlt)
        have h2 := lsum_mem (u := uGExpr) (List.getElem_mem hlt)
        refine tot_bind (tot_bind (tot_Eform n _ (by omega) (by omega)) fun _ _ => ?_) fun _ _ => tot_ite (fun _ => tot_some _) fun _ => ih
        repeat (first | exact tot_some _ | refine tot_ite (fun _ => ?_) fun _ => ?_)
      · rw [ref06_form_L1, if_neg (by simpa using hlt)]; exact tot_some _
theorem tot_EDeep : ∀ (n : Nat) (e : GExpr), mGExpr e < n → uGExpr e ≤ 1048576 → Tot (ref06_Deep n e)
  | 0, e, h, _ => by omega
  | n + 1, e, h, hu => by
    rw [mE_eq] at h
    have hp := uE_p e
    have hl := len_lsum u1_E e.fKids
    simp only [ref06_Deep, fuel_len]
    refine tot_bind ?_ fun _ _ => tot_some _
    refine tot_loop2 (ref06_Deep_L1 e (ref06_Deep n)) e.fKids.length (fun m k s hlt ih => ?_) (fun m k s hlt => ?_) _ 0 _ (by omega) (by omega)
    · rw [ref06_Deep_L1, if_pos (by simpa using hlt), idx_lt hlt, w64_succ hlt (by omega), obs]
      have h1 := lsum_mem (u := mGExpr) (List.getElem_mem hlt)
      have h2 := lsum_mem (u := uGExpr) (List.getElem_mem hlt)
      exact tot_bind (tot_EDeep n _ (by omega) (by omega)) fun _ _ => ih _
    · rw [ref06_Deep_L1, if_neg (by simpa using hlt)]; exact tot_some _
theorem tot_ERight {e : GExpr} (hu : uGExpr e ≤ 1048576) : Tot (ref06_Right e) := by
  unfold ref06_Right
  exact tot_bind (tot_Eform _ _ (by omega) hu) fun _ _ => tot_ite (fun _ => tot_bind (tot_EDeep _ _ (by omega) hu) fun _ _ => tot_some _) fun _ => tot_some _
theorem tp_Blank (s : GStmt) : TP (fun y => mGExpr y.fE ≤ mGExpr s.fE + 1) (ref08_Blank s) := by
  unfold ref08_Blank
  have b : ∀ {b : Option Bool} (_ : Tot b), TP (fun _ => True) b := fun h => tp_of h
  have e1 : mGExpr ({ fKind := 0, fNum := 0, fName := [], fKids := [] } : GExpr) = 1 := by rw [mE_eq]; rfl
  refine tp_bind (R := fun y : GStmt => mGExpr y.fE ≤ mGExpr s.fE + 1) (tp_bind (b ?_) fun x _ => tp_ite (fun _ => tp_some (by simp)) fun _ => tp_some (by simp)) fun y1 h1 => ?_
  · repeat (first | exact tot_some _ | refine tot_ite (fun _ => ?_) fun _ => ?_)
  refine tp_bind (R := fun y : GStmt => mGExpr y.fE ≤ mGExpr s.fE + 1) (tp_bind (b ?_) fun x _ => tp_ite (fun _ => tp_some h1) fun _ => tp_some h1) fun y2 h2 => ?_
  · repeat (first | exact tot_some _ | refine tot_ite (fun _ => ?_) fun _ => ?_)
  refine tp_bind (R := fun y : GStmt => mGExpr y.fE ≤ mGExpr s.fE + 1) (tp_bind (b ?_) fun x _ => tp_ite (fun _ => tp_some h2) fun _ => tp_some h2) fun y3 h3 => ?_
  · repeat (first | exact tot_some _ | refine tot_ite (fun _ => ?_) fun _ => ?_)
  refine tp_bind (R := fun y : GStmt => mGExpr y.fE ≤ mGExpr s.fE + 1) (tp_bind (b ?_) fun x _ => tp_ite (fun _ => tp_some h3) fun _ => tp_some h3) fun y4 h4 => ?_
  · repeat (first | exact tot_some _ | refine tot_ite (fun _ => ?_) fun _ => ?_)
  refine tp_bind (R := fun y : GStmt => mGExpr y.fE ≤ mGExpr s.fE + 1) (tp_bind (b ?_) fun x _ => tp_ite (fun _ => tp_some (by show mGExpr ({ fKind := 0, fNum := 0, fName := [], fKids := [] } : GExpr) ≤ _; omega)) fun _ => tp_some h4) fun y5 h5 => ?_
  · repeat (first | exact tot_some _ | refine tot_ite (fun _ => ?_) fun _ => ?_)
  refine tp_bind (R := fun y : GStmt => mGExpr y.fE ≤ mGExpr s.fE + 1) (tp_ite (fun _ => tp_some h5) fun _ => tp_some h5) fun y6 h6 => ?_
  refine tp_bind (R := fun y : GStmt => mGExpr y.fE ≤ mGExpr s.fE + 1) (tp_bind (b ?_) fun x _ => tp_ite (fun _ => tp_some h6) fun _ => tp_some h6) fun y7 h7 => ?_
  · repeat (first | exact tot_some _ | refine tot_ite (fun _ => ?_) fun _ => ?_)
  exact tp_ite (fun _ => tp_some h7) fun _ => tp_some h7
theorem tot_only {s : GStmt} (hu : uGStmt s ≤ 1048576) : Tot (ref08_only s) := by
  unfold ref08_only
  have hp := uS_p s
  have hm := mE_le s.fE
  have e1 : mGExpr ({ fKind := 0, fNum := 0, fName := [], fKids := [] } : GExpr) = 1 := by rw [mE_eq]; rfl
  refine tot_of (tp_bind (tp_Blank s) fun y hy => tp_of ?_)
  have hS : Tot (ref06_Same (mGExpr y.fE + mGExpr ({ fKind := 0, fNum := 0, fName := [], fKids := [] } : GExpr) + 1) y.fE ({ fKind := 0, fNum := 0, fName := [], fKids := [] } : GExpr)) := tot_ESame _ _ _ (by omega) (by omega)
  repeat (first | exact tot_some _ | exact hS | refine tot_ite (fun _ => ?_) fun _ => ?_ | refine tot_bind ?_ fun _ _ => ?_)
theorem tot_Snames {s : GStmt} (n : Int) (hu : uGStmt s ≤ 1048576) : Tot (ref08_names s n) := by
  unfold ref08_names
  have hp := uS_p s
  have ht := uT_p s.fType
  have h1 : Tot (ref02_Name s.fX) := tot_Name (by omega)
  have h2 : Tot (ref02_Name s.fY) := tot_Name (by omega)
  have h3 : Tot (ref02_Name s.fName) := tot_Name (by omega)
  have h4 : Tot (ref05_Right s.fType n) := tot_TRight _ (by omega)
  repeat (first | exact tot_some _ | exact h1 | exact h2 | exact h3 | exact h4 | refine tot_ite (fun _ => ?_) fun _ => ?_ | refine tot_bind ?_ fun _ _ => ?_)
theorem tot_tells {s : GStmt} (hu : uGStmt s ≤ 1048576) : Tot (ref08_tells s) := by
  unfold ref08_tells
  rw [fuel_len]
  have hp := uS_p s
  have hm := mE_le s.fE
  have hl := len_lsum u1_E s.fArgs
  have e1 : mGExpr ({ fKind := 0, fNum := 0, fName := [], fKids := [] } : GExpr) = 1 := by rw [mE_eq]; rfl
  have hS : Tot (ref06_Same (mGExpr s.fE + mGExpr ({ fKind := 0, fNum := 0, fName := [], fKids := [] } : GExpr) + 1) s.fE ({ fKind := 0, fNum := 0, fName := [], fKids := [] } : GExpr)) := tot_ESame _ _ _ (by omega) (by omega)
  have hR : Tot (ref06_Right s.fE) := tot_ERight (by omega)
  have hL : Tot (ref08_tells_L1 s (s.fArgs.length + 1) 0) := by
    refine tot_loop1 (ref08_tells_L1 s) s.fArgs.length (fun m k hlt ih => ?_) (fun m k hlt => ?_) _ 0 (by omega) (by omega)
    · rw [ref08_tells_L1, if_pos (by simpa using hlt), idx_lt hlt, w64_succ hlt (by omega), obs]
      have h2 := lsum_mem (u := uGExpr) (List.getElem_mem hlt)
      exact tot_bind (tot_ERight (by omega)) fun _ _ => tot_ite (fun _ => tot_some _) fun _ => ih
    · rw [ref08_tells_L1, if_neg (by simpa using hlt)]; exact tot_some _
  repeat (first | exact tot_some _ | exact hS | exact hR | exact hL | refine tot_ite (fun _ => ?_) fun _ => ?_ | refine tot_elim (fun _ => ?_) fun _ => ?_ | refine tot_bind ?_ fun _ _ => ?_)
theorem tot_Sform : ∀ (n : Nat) (s : GStmt) (p : Int), mGStmt s < n → uGStmt s ≤ 1048576 → Tot (ref08_form n s p)
  | 0, s, p, h, _ => by omega
  | n + 1, s, p, h, hu => by
    rw [mS_eq] at h
    have hp := uS_p s
    have hl1 := len_lsum u1_S s.fBody
    have hl2 := len_lsum u1_S s.fElse
    simp only [ref08_form, fuel_len]
    have hL1 : Tot (ref08_form_L1 s p (ref08_form n) (s.fBody.length + 1) 0) := by
      refine tot_loop1 (ref08_form_L1 s p (ref08_form n)) s.fBody.length (fun m k hlt ih => ?_) (fun m k hlt => ?_) _ 0 (by omega) (by omega)
      · rw [ref08_form_L1, if_pos (by simpa using hlt), idx_lt hlt, w64_succ hlt (by omega), obs]
        have h1 := lsum_mem (u := mGStmt) (List.getElem_mem hlt)
        have h2 := lsum_mem (u := uGStmt) (List.getElem_mem hlt)
        exact tot_bind (tot_Sform n _ _ (by omega) (by omega)) fun _ _ => tot_ite (fun _ => tot_some _) fun _ => ih
      · rw [ref08_form_L1, if_neg (by simpa using hlt)]; exact tot_some _
    have hL2 : Tot (ref08_form_L2 s p (ref08_form n) (s.fElse.length + 1) 0) := by
      refine tot_loop1 (ref08_form_L2 s p (ref08_form n)) s.fElse.length (fun m k hlt ih => ?_) (fun m k hlt => ?_) _ 0 (by omega) (by omega)
      · rw [ref08_form_L2, if_pos (by simpa using hlt), idx_lt hlt, w64_succ hlt (by omega), obs]
        have h1 := lsum_mem (u := mGStmt) (List.getElem_mem hlt)
        have h2 := lsum_mem (u := uGStmt) (List.getElem_mem hlt)
        exact tot_bind (tot_Sform n _ _ (by omega) (by omega)) fun _ _ => tot_ite (fun _ => tot_some _) fun _ => ih
      · rw [ref08_form_L2, if_neg (by simpa using hlt)]; exact tot_some _
    have h1 := tot_only hu
    have h2 := tot_Snames p hu
    have h3 := tot_tells hu
    repeat (first | exact tot_some _ | exact hL1 | exact hL2 | exact h1 | exact h2 | exact h3 | refine tot_ite (fun _ => ?_) fun _ => ?_ | refine tot_elim (fun _ => ?_) fun _ => ?_ | refine tot_bind ?_ fun _ _ => ?_)
theorem tot_SDeep : ∀ (n : Nat) (s : GStmt), mGStmt s < n → uGStmt s ≤ 1048576 → Tot (ref08_Deep n s)
  | 0, s, h, _ => by omega
  | n + 1, s, h, hu => by
    rw [mS_eq] at h
    have hp := uS_p s
    have hl1 := len_lsum u1_S s.fBody
    have hl2 := len_lsum u1_S s.fElse
    simp only [ref08_Deep, fuel_len]
    refine tot_bind ?_ fun _ _ => tot_bind ?_ fun _ _ => tot_some _
    · refine tot_loop2 (ref08_Deep_L1 s (ref08_Deep n)) s.fBody.length (fun m k x hlt ih => ?_) (fun m k x hlt => ?_) _ 0 _ (by omega) (by omega)
      · rw [ref08_Deep_L1, if_pos (by simpa using hlt), idx_lt hlt, w64_succ hlt (by omega), obs]
        have h1 := lsum_mem (u := mGStmt) (List.getElem_mem hlt)
        have h2 := lsum_mem (u := uGStmt) (List.getElem_mem hlt)
        exact tot_bind (tot_SDeep n _ (by omega) (by omega)) fun _ _ => ih _
      · rw [ref08_Deep_L1, if_neg (by simpa using hlt)]; exact tot_some _
    · refine tot_loop2 (ref08_Deep_L2 s (ref08_Deep n)) s.fElse.length (fun m k x hlt ih => ?_) (fun m k x hlt => ?_) _ 0 _ (by omega) (by omega)
      · rw [ref08_Deep_L2, if_pos (by simpa using hlt), idx_lt hlt, w64_succ hlt (by omega), obs]
        have h1 := lsum_mem (u := mGStmt) (List.getElem_mem hlt)
        have h2 := lsum_mem (u := uGStmt) (List.getElem_mem hlt)
        exact tot_bind (tot_SDeep n _ (by omega) (by omega)) fun _ _ => ih _
      · rw [ref08_Deep_L2, if_neg (by simpa using hlt)]; exact tot_some _
theorem tot_SRight {s : GStmt} (p : Int) (hu : uGStmt s ≤ 1048576) : Tot (ref08_Right s p) := by
  unfold ref08_Right
  exact tot_bind (tot_Sform _ _ _ (by omega) hu) fun _ _ => tot_ite (fun _ => tot_bind (tot_SDeep _ _ (by omega) hu) fun _ _ => tot_some _) fun _ => tot_some _
theorem tot_written {t : GType} (p : Int) (hu : uGType t ≤ 1048576) : Tot (ref10_written t p) := by
  unfold ref10_written
  have := uT_p t
  have h1 : Tot (ref05_Right t p) := tot_TRight _ (by omega)
  repeat (first | exact tot_some _ | exact h1 | refine tot_ite (fun _ => ?_) fun _ => ?_ | refine tot_bind ?_ fun _ _ => ?_)
theorem tot_vars {l : List GVar} (m p : Int) (hu : lsum uGVar l ≤ 1048576) : Tot (ref10_vars l m p) := by
  unfold ref10_vars
  rw [fuel_len]
  have hl := len_lsum u1_V l
  refine tot_bind ?_ fun _ _ => tot_elim (fun _ => tot_some _) fun _ => tot_some _
  refine tot_loop1 (ref10_vars_L1 l p) l.length (fun m k hlt ih => ?_) (fun m k hlt => ?_) _ 0 (by omega) (by omega)
  · rw [ref10_vars_L1, if_pos (by simpa using hlt), idx_lt hlt, w64_succ hlt (by omega), obs, obs, obs]
    have h2 := lsum_mem (u := uGVar) (List.getElem_mem hlt)
    have h3 := uV_p l[k]
    exact tot_bind (tot_bind (tot_Name (by omega)) fun _ _ => tot_ite (fun _ => tot_some _) fun _ => tot_ite (fun _ => tot_some _) fun _ => tot_bind (tot_written _ (by omega)) fun _ _ => tot_some _) fun _ _ => tot_ite (fun _ => tot_some _) fun _ => ih
  · rw [ref10_vars_L1, if_neg (by simpa using hlt)]; exact tot_some _
theorem tot_open : ∀ (n : Nat) (l : List GStmt) (p : Int), mLGStmt l < n → lsum uGStmt l ≤ 1048576 → Tot (ref10_open n l p)
  | 0, l, p, h, _ => by omega
  | n + 1, l, p, h, hu => by
    have hl := len_lsum u1_S l
    rw [mLS_sum] at h
    simp only [ref10_open, fuel_len]
    refine tot_bind ?_ fun _ _ => tot_elim (fun _ => tot_some _) fun _ => tot_some _
    refine tot_loop1 (ref10_open_L1 l p (ref10_open n)) l.length (fun m k hlt ih => ?_) (fun m k hlt => ?_) _ 0 (by omega) (by omega)
    · rw [ref10_open_L1, if_pos (by simpa using hlt), idx_lt hlt, w64_succ hlt (by omega)]
      simp only [obs]
      have h1 := lsum_mem (u := mGStmt) (List.getElem_mem hlt)
      have h2 := lsum_mem (u := uGStmt) (List.getElem_mem hlt)
      have h3 := uS_p l[k]
      rw [mS_eq] at h1
      have o1 : Tot (ref10_open n l[k].fBody p) := tot_open n _ _ (by rw [mLS_sum]; omega) (by omega)
      have o2 : Tot (ref10_open n l[k].fElse p) := tot_open n _ _ (by rw [mLS_sum]; omega) (by omega)
      have o3 : Tot (ref10_written l[k].fType p) := tot_written _ (by omega)
      refine tot_bind ?_ fun _ _ => tot_ite (fun _ => tot_some _) fun _ => ih
      repeat (first | exact tot_some _ | exact o1 | exact o2 | exact o3 | refine tot_ite (fun _ => ?_) fun _ => ?_ | refine tot_bind ?_ fun _ _ => ?_)
    · rw [ref10_open_L1, if_neg (by simpa using hlt)]; exact tot_some _
theorem tot_method10 {m : GMethod} (p : Int) (hu : uGMethod m ≤ 1048576) : Tot (ref10_method m p) := by
  unfold ref10_method
  rw [fuel_len]
  have hp := uM_p m
  have hl := len_lsum u1_S m.fBody
  have hL : Tot (ref10_method_L1 m p (m.fBody.length + 1) 0) := by
    refine tot_loop1 (ref10_method_L1 m p) m.fBody.length (fun n k hlt ih => ?_) (fun n k hlt => ?_) _ 0 (by omega) (by omega)
    · rw [ref10_method_L1, if_pos (by simpa using hlt), idx_lt hlt, w64_succ hlt (by omega), obs]
      have h2 := lsum_mem (u := uGStmt) (List.getElem_mem hlt)
      exact tot_bind (tot_SRight _ (by omega)) fun _ _ => tot_ite (fun _ => tot_some _) fun _ => ih
    · rw [ref10_method_L1, if_neg (by simpa using hlt)]; exact tot_some _
  have h1 : Tot (ref02_Name m.fName) := tot_Name (by omega)
  have h2 : Tot (ref10_written m.fRet p) := tot_written _ (by omega)
  have h3 : Tot (ref10_vars m.fParams 5 p) := tot_vars _ _ (by omega)
  have h4 : Tot (ref10_vars m.fLocals 12 p) := tot_vars _ _ (by omega)
  have h5 : Tot (ref10_open (mLGStmt m.fBody + 1) m.fBody p) := tot_open _ _ _ (by omega) (by omega)
  repeat (first | exact tot_some _ | exact hL | exact h1 | exact h2 | exact h3 | exact h4 | exact h5 | refine tot_ite (fun _ => ?_) fun _ => ?_ | refine tot_elim (fun _ => ?_) fun _ => ?_ | refine tot_bind ?_ fun _ _ => ?_)
theorem tot_class10 {c : GClass} (hu : uGClass c ≤ 1048576) : Tot (ref10_class c) := by
  unfold ref10_class
  rw [fuel_len, fuel_len, fuel_len]
  have hp := uC_p c
  have hl1 := len_lsum u1_str c.fParams
  have hl2 := len_lsum u1_O c.fAbove
  have hl3 := len_lsum u1_M c.fMethods
  have hL1 : Tot (ref10_class_L1 c (c.fParams.length + 1) 0) := by
    refine tot_loop1 (ref10_class_L1 c) c.fParams.length (fun n k hlt ih => ?_) (fun n k hlt => ?_) _ 0 (by omega) (by omega)
    · rw [ref10_class_L1, if_pos (by simpa using hlt), idx_lt hlt, w64_succ hlt (by omega), obs]
      have h2 := lsum_mem (u := fun s => List.length s + 1) (List.getElem_mem hlt)
      exact tot_bind (tot_Name (by omega)) fun _ _ => tot_ite (fun _ => tot_some _) fun _ => ih
    · rw [ref10_class_L1, if_neg (by simpa using hlt)]; exact tot_some _
  have hL2 : Tot (ref10_class_L2 c (c.fAbove.length + 1) 0) := by
    refine tot_loop1 (ref10_class_L2 c) c.fAbove.length (fun n k hlt ih => ?_) (fun n k hlt => ?_) _ 0 (by omega) (by omega)
    · rw [ref10_class_L2, if_pos (by simpa using hlt), idx_lt hlt, w64_succ hlt (by omega), obs, obs]
      refine tot_bind (tot_bind (tot_ORight _ _) fun _ _ => ?_) fun _ _ => tot_ite (fun _ => tot_some _) fun _ => ih
      repeat (first | exact tot_some _ | refine tot_ite (fun _ => ?_) fun _ => ?_)
    · rw [ref10_class_L2, if_neg (by simpa using hlt)]; exact tot_some _
  have hL3 : Tot (ref10_class_L3 c (c.fMethods.length + 1) 0) := by
    refine tot_loop1 (ref10_class_L3 c) c.fMethods.length (fun n k hlt ih => ?_) (fun n k hlt => ?_) _ 0 (by omega) (by omega)
    · rw [ref10_class_L3, if_pos (by simpa using hlt), idx_lt hlt, w64_succ hlt (by omega), obs]
      have h2 := lsum_mem (u := uGMethod) (List.getElem_mem hlt)
      exact tot_bind (tot_method10 _ (by omega)) fun _ _ => tot_ite (fun _ => tot_some _) fun _ => ih
    · rw [ref10_class_L3, if_neg (by simpa using hlt)]; exact tot_some _
  have h1 : Tot (ref02_Name c.fName) := tot_Name (by omega)
  have h2 : Tot (ref02_Name c.fSuper) := tot_Name (by omega)
  have h3 : Tot (ref10_vars c.fFields 12 (c.fParams.length : Int)) := tot_vars _ _ (by omega)
  repeat (first | exact tot_some _ | exact hL1 | exact hL2 | exact hL3 | exact h1 | exact h2 | exact h3 | refine tot_ite (fun _ => ?_) fun _ => ?_ | refine tot_elim (fun _ => ?_) fun _ => ?_ | refine tot_bind ?_ fun _ _ => ?_)
theorem tot_SSize : ∀ (n : Nat) (s : GStmt), mGStmt s < n → uGStmt s ≤ 1048576 → Tot (ref08_Size n s)
  | 0, s, h, _ => by omega
  | n + 1, s, h, hu => by
    rw [mS_eq] at h
    have hp := uS_p s
    have hl1 := len_lsum u1_S s.fBody
    have hl2 := len_lsum u1_S s.fElse
    simp only [ref08_Size, fuel_len]
    refine tot_bind ?_ fun _ _ => tot_bind ?_ fun _ _ => tot_some _
    · refine tot_loop2 (ref08_Size_L1 s (ref08_Size n)) s.fBody.length (fun m k x hlt ih => ?_) (fun m k x hlt => ?_) _ 0 _ (by omega) (by omega)
      · rw [ref08_Size_L1, if_pos (by simpa using hlt), idx_lt hlt, w64_succ hlt (by omega), obs]
        have h1 := lsum_mem (u := mGStmt) (List.getElem_mem hlt)
        have h2 := lsum_mem (u := uGStmt) (List.getElem_mem hlt)
        exact tot_bind (tot_SSize n _ (by omega) (by omega)) fun _ _ => ih _
      · rw [ref08_Size_L1, if_neg (by simpa using hlt)]; exact tot_some _
    · refine tot_loop2 (ref08_Size_L2 s (ref08_Size n)) s.fElse.length (fun m k x hlt ih => ?_) (fun m k x hlt => ?_) _ 0 _ (by omega) (by omega)
      · rw [ref08_Size_L2, if_pos (by simpa using hlt), idx_lt hlt, w64_succ hlt (by omega), obs]
        have h1 := lsum_mem (u := mGStmt) (List.getElem_mem hlt)
        have h2 := lsum_mem (u := uGStmt) (List.getElem_mem hlt)
        exact tot_bind (tot_SSize n _ (by omega) (by omega)) fun _ _ => ih _
      · rw [ref08_Size_L2, if_neg (by simpa using hlt)]; exact tot_some _
theorem tot_Stmts {c : GClass} (hu : uGClass c ≤ 1048576) : Tot (ref09_Stmts c) := by
  unfold ref09_Stmts
  rw [fuel_len]
  have hp := uC_p c
  have hl3 := len_lsum u1_M c.fMethods
  refine tot_bind ?_ fun _ _ => tot_some _
  refine tot_loop2 (ref09_Stmts_L1 c) c.fMethods.length (fun n k x hlt ih => ?_) (fun n k x hlt => ?_) _ 0 _ (by omega) (by omega)
  · rw [ref09_Stmts_L1, if_pos (by simpa using hlt), w64_succ hlt (by omega), idx_lt hlt, obs, Option.getD_some, fuel_len]
    have h2 := lsum_mem (u := uGMethod) (List.getElem_mem hlt)
    have h3 := uM_p c.fMethods[k]
    have hl := len_lsum u1_S c.fMethods[k].fBody
    refine tot_bind ?_ fun _ _ => ih _
    refine tot_loop2 (ref09_Stmts_L2 c (k : Int)) c.fMethods[k].fBody.length (fun m j y hj ih2 => ?_) (fun m j y hj => ?_) _ 0 _ (by omega) (by omega)
    · rw [ref09_Stmts_L2, idx_lt hlt, obs, if_pos (by simpa using hj), obs, idx_lt hj, obs, w64_succ hj (by omega)]
      have h4 := lsum_mem (u := uGStmt) (List.getElem_mem hj)
      exact tot_bind (tot_SSize _ _ (by omega) (by omega)) fun _ _ => ih2 _
    · rw [ref09_Stmts_L2, idx_lt hlt, obs, if_neg (by simpa using hj)]; exact tot_some _
  · rw [ref09_Stmts_L1, if_neg (by simpa using hlt)]; exact tot_some _
theorem tot_Right10 {p : List GClass} (hu : lsum uGClass p ≤ 1048576) : Tot (ref10_Right p) := by
  unfold ref10_Right
  rw [fuel_len]
  have hl := len_lsum u1_C p
  refine tot_bind ?_ fun _ _ => tot_elim (fun _ => tot_some _) fun _ => tot_some _
  refine tot_loop2 (ref10_Right_L1 p) p.length (fun n k x hlt ih => ?_) (fun n k x hlt => ?_) _ 0 _ (by omega) (by omega)
  · rw [ref10_Right_L1, if_pos (by simpa using hlt), w64_succ hlt (by omega), idx_lt hlt]
    simp only [obs]
    have h2 := lsum_mem (u := uGClass) (List.getElem_mem hlt)
    exact tot_bind (tot_ite (fun _ => tot_some _) fun _ => tot_bind (tot_class10 (by omega)) fun _ _ => tot_some _) fun _ _ => tot_ite (fun _ => tot_some _) fun _ => tot_bind (tot_Stmts (by omega)) fun _ _ => ih _
  · rw [ref10_Right_L1, if_neg (by simpa using hlt)]; exact tot_some _

/-! ### The types of a program; what is wrong with it: never a failure, where it counts little. -/
theorem room_u {n m b : Int} (h : n + m ≤ 10000000) (h0 : 0 ≤ n + m) (hb : 0 ≤ b) (hb2 : b ≤ 1000) : room (n + m) b = some () := by
  refine room_ok ?_
  refine Int.le_trans (Int.mul_le_mul_of_nonneg_right h hb) ?_
  refine Int.le_trans (Int.mul_le_mul_of_nonneg_left hb2 (by omega)) ?_
  omega
theorem tp_lines : ∀ (n : Nat) (l : List GStmt) (x : GLine_ref12), mLGStmt l < n → lsum uGStmt l ≤ 1048576 → TP (fun r => r.length ≤ lsum uGStmt l) (ref12_lines n l x)
  | 0, l, x, h, _ => by omega
  | n + 1, l, x, h, hu => by
    have hl := len_lsum u1_S l
    rw [mLS_sum] at h
    simp only [ref12_lines, fuel_len]
    refine tp_bind (R := fun r => r.length ≤ lsum uGStmt l) ?_ fun r hr => tp_some hr
    refine tp_loop (ref12_lines_L1 l x (ref12_lines n)) l.length (fun k s => s.length + lsum uGStmt (l.drop k) ≤ lsum uGStmt l) (fun m k s hlt hi ih => ?_) (fun m s hi => ?_) _ 0 _ (by omega) (by omega) (by simp)
    · rw [ref12_lines_L1, if_pos (by simpa using hlt), idx_lt hlt, w64_succ hlt (by omega)]
      simp only [obs]
      have h1 := lsum_mem (u := mGStmt) (List.getElem_mem hlt)
      have h3 := uS_p l[k]
      have h4 := lsum_drop uGStmt hlt
      rw [mS_eq] at h1
      rw [room_u (by rw [List.length_singleton]; omega) (by omega) (by omega) (by omega), obs]
      refine tp_bind (tp_lines n _ _ (by rw [mLS_sum]; omega) (by omega)) fun y hy => ?_
      rw [room_u (by rw [List.length_append, List.length_singleton]; omega) (by omega) (by omega) (by omega), obs]
      refine tp_bind (tp_lines n _ _ (by rw [mLS_sum]; omega) (by omega)) fun z hz => ?_
      rw [room_u (by rw [List.length_append, List.length_append, List.length_singleton]; omega) (by omega) (by omega) (by omega), obs]
      exact ih _ (by simp only [List.length_append, List.length_singleton]; omega)
    · rw [ref12_lines_L1, if_neg (by simp)]
      rw [List.drop_eq_nil_of_le (Nat.le_refl _)] at hi
      exact tp_some (by simpa [lsum] using hi)
theorem tp_Vars12 {m : GMethod} (hu : uGMethod m ≤ 1048576) : TP (fun r => r = m.fParams ++ m.fLocals) (ref12_Vars m) := by
  unfold ref12_Vars
  have hp := uM_p m
  have hl1 := len_lsum u1_V m.fParams
  have hl2 := len_lsum u1_V m.fLocals
  rw [room_u (by simp; omega) (by omega) (by omega) (by omega), obs, room_u (by simp; omega) (by omega) (by omega) (by omega), obs]
  exact tp_some (by simp)
theorem tp_Types {p : List GClass} (hu : lsum uGClass p ≤ 1048576) : TP (fun r => r.length ≤ lsum uGClass p) (ref12_Types p) := by
  unfold ref12_Types
  rw [fuel_len]
  have hl := len_lsum u1_C p
  refine tp_bind (R := fun r => r.length ≤ lsum uGClass p) ?_ fun r hr => tp_some hr
  refine tp_loop (ref12_Types_L1 p) p.length (fun k s => s.length + lsum uGClass (p.drop k) ≤ lsum uGClass p) (fun m i s hlt hi ih => ?_) (fun m s hi => ?_) _ 0 _ (by omega) (by omega) (by simp)
  · rw [ref12_Types_L1, if_pos (by simpa using hlt), idx_lt hlt, w64_succ hlt (by omega)]
    simp only [obs, Option.getD_some, fuel_len]
    have hd := lsum_drop uGClass hlt
    have hc := uC_p p[i]
    have hlf := len_lsum u1_V p[i].fFields
    have hlm := len_lsum u1_M p[i].fMethods
    refine tp_bind (R := fun r => r.length ≤ s.length + p[i].fFields.length) ?_ fun s1 hs1 => ?_
    · refine tp_loop (ref12_Types_L2 p (i : Int)) p[i].fFields.length (fun k t => t.length ≤ s.length + k) (fun m k t hk ht ih2 => ?_) (fun m t ht => ?_) _ 0 _ (by omega) (by omega) (by omega)
      · rw [ref12_Types_L2, idx_lt hlt, obs, if_pos (by simpa using hk), obs, idx_lt hk, obs, w64_succ hk (by omega), room_u (by rw [List.length_singleton]; omega) (by omega) (by omega) (by omega), obs]
        exact ih2 _ (by rw [List.length_append, List.length_singleton]; omega)
      · rw [ref12_Types_L2, idx_lt hlt, obs, if_neg (by simp)]
        exact tp_some ht
    · refine tp_bind (R := fun r => r.length ≤ s1.length + lsum uGMethod p[i].fMethods) ?_ fun s2 hs2 => ih _ (by omega)
      refine tp_loop (ref12_Types_L3 p (i : Int)) p[i].fMethods.length (fun k t => t.length + lsum uGMethod (p[i].fMethods.drop k) ≤ s1.length + lsum uGMethod p[i].fMethods) (fun m k t hk ht ih2 => ?_) (fun m t ht => ?_) _ 0 _ (by omega) (by omega) (by simp)
      · rw [ref12_Types_L3, idx_lt hlt, obs, if_pos (by simpa using hk), obs, idx_lt hk, obs, w64_succ hk (by omega)]
        have hdm := lsum_drop uGMethod hk
        have hm := uM_p p[i].fMethods[k]
        have hlp := len_lsum u1_V p[i].fMethods[k].fParams
        have hll := len_lsum u1_V p[i].fMethods[k].fLocals
        rw [room_u (by rw [List.length_singleton]; omega) (by omega) (by omega) (by omega), obs]
        refine tp_bind (tp_Vars12 (by omega)) fun v hv => ?_
        have hvl : v.length = p[i].fMethods[k].fParams.length + p[i].fMethods[k].fLocals.length := by rw [hv, List.length_append]
        rw [fuel_len]
        refine tp_bind (R := fun r => r.length ≤ t.length + 1 + v.length) ?_ fun t1 ht1 => ?_
        · refine tp_loop (ref12_Types_L4 (i : Int) (k : Int) v) v.length (fun j y => y.length ≤ t.length + 1 + j) (fun m j y hj hy ih3 => ?_) (fun m y hy => ?_) _ 0 _ (by omega) (by omega) (by simp)
          · rw [ref12_Types_L4, if_pos (by simpa using hj), idx_lt hj, obs, obs, w64_succ hj (by omega), room_u (by rw [List.length_singleton]; omega) (by omega) (by omega) (by omega), obs]
            exact ih3 _ (by rw [List.length_append, List.length_singleton]; omega)
          · rw [ref12_Types_L4, if_neg (by simp)]
            exact tp_some hy
        · refine tp_bind (tp_lines _ _ _ (by omega) (by omega)) fun ls hls => ?_
          rw [fuel_len]
          refine tp_bind (R := fun r => r.length ≤ t1.length + ls.length) ?_ fun t2 ht2 => ih2 _ (by omega)
          refine tp_loop (ref12_Types_L5 (i : Int) (k : Int) ls) ls.length (fun j y => y.length ≤ t1.length + j) (fun m j y hj hy ih3 => ?_) (fun m y hy => ?_) _ 0 _ (by omega) (by omega) (by simp)
          · rw [ref12_Types_L5, if_pos (by simpa using hj), idx_lt hj, obs, w64_succ hj (by omega)]
            refine tp_bind (R := fun r => r.length ≤ y.length + 1) (tp_ite (fun _ => ?_) fun _ => tp_some (by omega)) fun y2 hy2 => ih3 _ (by omega)
            rw [obs, obs, room_u (by rw [List.length_singleton]; omega) (by omega) (by omega) (by omega), obs]
            exact tp_some (by rw [List.length_append, List.length_singleton]; omega)
          · rw [ref12_Types_L5, if_neg (by simp)]
            exact tp_some hy
      · rw [ref12_Types_L3, idx_lt hlt, obs, if_neg (by simp)]
        rw [List.drop_eq_nil_of_le (Nat.le_refl _)] at ht
        exact tp_some (by simpa [lsum] using ht)
  · rw [ref12_Types_L1, if_neg (by simp)]
    rw [List.drop_eq_nil_of_le (Nat.le_refl _)] at hi
    exact tp_some (by simpa [lsum] using hi)
theorem tot_Arity13 {p : List GClass} (hp : p.length < 9223372036854775806) (name : List UInt8) : Tot (ref13_Arity p name) := by
  unfold ref13_Arity
  rw [ref13_Find_eq hp, obs]
  cases hf : fi p name with
  | none => rw [fnd_none hf, if_pos (by simp)]; exact tot_some _
  | some i => rw [fnd_some hf, if_neg (by simp), idx_lt (fi_lt hf), obs]; exact tot_some _
theorem tot_fault13 (a b : Int) : ref13_fault a b = some ⟨a, b⟩ := rfl
theorem lsum_take_le {α : Type} (u : α → Nat) : ∀ (l : List α) (a b : Nat), lsum u ((l.take b).drop a) ≤ lsum u l
  | [], a, b => by simp [lsum]
  | x :: l, a, 0 => by simp [lsum]
  | x :: l, 0, b + 1 => by have := lsum_take_le u l 0 b; simp only [List.drop_zero] at this; simp only [List.take_succ_cons, List.drop_zero, lsum]; omega
  | x :: l, a + 1, b + 1 => by have := lsum_take_le u l a b; simp only [List.take_succ_cons, List.drop_succ_cons, lsum]; omega
theorem tot_types13 {p : List GClass} (hu : lsum uGClass p ≤ 1048576) {i : Nat} (hi : i < p.length) : Tot (ref13_types p (i : Int)) := by
  unfold ref13_types
  have hl := len_lsum u1_C p
  rw [w64_succ hi (by omega)]
  have hcut : cutL p (i : Int) ((i + 1 : Nat) : Int) = some ((p.take (i + 1)).drop i) := by unfold cutL; rw [if_pos ⟨by omega, by omega, by omega⟩]; simp
  rw [hcut, obs]
  have hs := lsum_take_le uGClass p i (i + 1)
  refine tot_of (tp_bind (tp_Types (by omega)) fun ns hns => tp_of ?_)
  rw [fuel_len]
  refine tot_bind ?_ fun _ _ => tot_elim (fun _ => tot_some _) fun _ => tot_some _
  refine tot_loop1 (ref13_types_L1 p ns) ns.length (fun n k hlt ih => ?_) (fun n k hlt => ?_) _ 0 (by omega) (by omega)
  · rw [ref13_types_L1, if_pos (by simpa using hlt), idx_lt hlt, w64_succ hlt (by omega)]
    obtain ⟨ar, har⟩ := tot_Arity13 (p := p) (by omega) ns[k].fType.fClass
    simp only [obind, har, tot_fault13]
    by_cases h1 : (ns[k].fType.fKind != 2) = true
    · rw [if_pos h1]; exact ih
    · rw [if_neg h1]
      by_cases h2 : (decide (ar < 0)) = true
      · rw [if_pos h2]; exact tot_some _
      · rw [if_neg h2]
        by_cases h3 : (ns[k].fType.fN != 0) = true
        · rw [if_pos h3]
          simp only
          by_cases h4 : (ns[k].fType.fN != ar) = true
          · rw [if_pos h4]; exact tot_some _
          · rw [if_neg h4]; exact ih
        · rw [if_neg h3]
          simp only
          rw [if_neg (by simp)]; exact ih
  · rw [ref13_types_L1, if_neg (by simpa using hlt)]; exact tot_some _
theorem tp_names13 {l : List GVar} (hu : l.length ≤ 1048576) : TP (fun r => r = l.map (·.fName)) (ref13_names l) := by
  unfold ref13_names
  rw [foldL (ref13_names_L1 l) (l := l) (by omega) (f := fun s y => Option.bind (room ((s.length : Int) + ([y.fName].length : Int)) 16) fun _ => some (s ++ [y.fName])) (fin := some) (fun n s x => by
    rw [ref13_names_L1]
    by_cases h : decide (x < (l.length : Int)) = true
    · rw [if_pos h, if_pos h]
      cases idx l x with
      | none => simp only [Option.bind_none]
      | some y =>
        rw [obs, obs]
        cases room ((s.length : Int) + ([y.fName].length : Int)) 16 with
        | none => simp only [Option.bind_none]
        | some u => simp only [obs]
    · rw [if_neg h, if_neg h]), foldO_room _ (·.fName) 2000000 (fun s y hs => by
    rw [List.length_singleton, room_u (by omega) (by omega) (by omega) (by omega), obs]) l [] (by rw [List.length_nil]; omega)]
  exact tp_some (by simp)
/-- A name that stands ahead of itself. -/
theorem tp_Twice {l : List (List UInt8)} (hl : l.length ≤ 9223372036854775806) : TP (fun r => r < (l.length : Int)) (ref13_Twice l) := by
  unfold ref13_Twice
  rw [fuel_len]
  refine tp_bind (R := fun c => ∀ v, c = Ctl.stop v → v < (l.length : Int)) ?_ fun c hc => ?_
  · have := tp_loop (σ := Unit) (Q := fun c : Ctl Int Unit => ∀ v, c = Ctl.stop v → v < (l.length : Int)) (fun n _ x => ref13_Twice_L1 l n x) l.length (fun _ _ => True) (fun n k _ hlt _ ih => ?_) (fun n _ _ => ?_) (l.length + 1) 0 () (by omega) (by omega) trivial
    · exact this
    · show TP _ (ref13_Twice_L1 l (n + 1) (k : Int))
      rw [ref13_Twice_L1, if_pos (by simpa using hlt), w64_succ hlt (by omega), fuel_len]
      refine tp_bind (R := fun c => ∀ v, c = Ctl.stop v → v = (k : Int)) ?_ fun c hc => ?_
      · have h2 := tp_loop (σ := Unit) (Q := fun c : Ctl Int Unit => ∀ v, c = Ctl.stop v → v = (k : Int)) (fun n _ x => ref13_Twice_L2 l (k : Int) n x) k (fun _ _ => True) (fun m j _ hj _ ih2 => ?_) (fun m _ _ => ?_) (k + 1) 0 () (by omega) (by omega) trivial
        · exact h2
        · show TP _ (ref13_Twice_L2 l (k : Int) (m + 1) (j : Int))
          rw [ref13_Twice_L2, if_pos (by simpa using hj), idx_lt (show j < l.length by omega), idx_lt hlt, obs, obs, w64_succ hj (by omega)]
          exact tp_ite (fun _ => tp_some (by intro v hv; cases hv; rfl)) fun _ => ih2 () trivial
        · show TP _ (ref13_Twice_L2 l (k : Int) (m + 1) (k : Int))
          rw [ref13_Twice_L2, if_neg (by simp)]
          exact tp_some (by intro v hv; cases hv)
      · cases c with
        | stop v => exact tp_some (by intro w hw; cases hw; rw [hc v rfl]; omega)
        | next u => exact ih () trivial
    · show TP _ (ref13_Twice_L1 l (n + 1) (l.length : Int))
      rw [ref13_Twice_L1, if_neg (by simp)]
      exact tp_some (by intro v hv; cases hv)
  · cases c with
    | stop v => exact tp_some (hc v rfl)
    | next u => exact tp_some (by omega)
theorem tot_class13 {p : List GClass} (hu : lsum uGClass p ≤ 1048576) {i : Nat} (hi : i < p.length) : Tot (ref13_class p (i : Int)) := by
  have hl := len_lsum u1_C p
  have hm := lsum_mem (u := uGClass) (List.getElem_mem hi)
  have hc := uC_p p[i]
  have hlp := len_lsum u1_str p[i].fParams
  have hlf := len_lsum u1_V p[i].fFields
  have hlm := len_lsum u1_M p[i].fMethods
  unfold ref13_class
  rw [idx_lt hi, obs, fuel_len]
  have hF1 : Tot (ref13_Find p p[i].fName) := by rw [ref13_Find_eq (by omega)]; exact tot_some _
  have hF2 : Tot (ref13_Find p p[i].fSuper) := by rw [ref13_Find_eq (by omega)]; exact tot_some _
  have hA : Tot (ref13_Arity p p[i].fSuper) := tot_Arity13 (by omega) _
  have hT : Tot (ref13_Twice p[i].fParams) := tot_of (tp_Twice (by omega))
  have hY : Tot (ref13_types p (i : Int)) := tot_types13 hu hi
  have hL : Tot (ref13_class_L1 p[i] (p[i].fMethods.length + 1) [] 0) := by
    refine tot_of (tp_loop (Q := fun _ => True) (ref13_class_L1 p[i]) p[i].fMethods.length (fun k s => s.length ≤ k) (fun m k s hk hs ih => ?_) (fun m s hs => ?_) _ 0 _ (by omega) (by omega) (by simp))
    · rw [ref13_class_L1, if_pos (by simpa using hk), idx_lt hk, obs, w64_succ hk (by omega), room_u (by rw [List.length_singleton]; omega) (by omega) (by omega) (by omega), obs]
      have hmm := lsum_mem (u := uGMethod) (List.getElem_mem hk)
      have hmp := uM_p p[i].fMethods[k]
      have h1 := len_lsum u1_V p[i].fMethods[k].fParams
      have h2 := len_lsum u1_V p[i].fMethods[k].fLocals
      refine tp_bind (tp_of (tot_of (tp_Twice (by rw [List.length_append, List.length_singleton]; omega)))) fun _ _ => tp_ite (fun _ => ?_) fun _ => ?_
      · rw [tot_fault13, obs]; exact tp_some trivial
      · refine tp_bind (tp_Vars12 (by omega)) fun v hv => tp_bind (tp_names13 (l := v) (by rw [hv, List.length_append]; omega)) fun ns hns => tp_bind (tp_Twice (by rw [hns, hv, List.length_map, List.length_append]; omega)) fun t ht => tp_ite (fun h0 => ?_) fun _ => ih _ (by rw [List.length_append, List.length_singleton]; omega)
        rw [hns, List.length_map] at ht
        rw [idx_in (by simpa using h0) ht, obs, tot_fault13, obs]
        exact tp_some trivial
    · rw [ref13_class_L1, if_neg (by simp)]; exact tp_some trivial
  refine tot_bind (tot_bind hF1 fun _ _ => tot_ite (fun _ => tot_some _) fun _ => tot_bind hT fun _ _ => tot_some _) fun _ _ => tot_ite (fun _ => tot_some _) fun _ => ?_
  refine tot_bind (tot_ite (fun _ => tot_bind hF2 fun _ _ => tot_some _) fun _ => tot_some _) fun _ _ => tot_ite (fun _ => tot_some _) fun _ => ?_
  refine tot_bind (tot_ite (fun _ => tot_bind hA fun _ _ => tot_some _) fun _ => tot_some _) fun _ _ => tot_ite (fun _ => tot_some _) fun _ => ?_
  refine tot_bind hY fun _ _ => tot_ite (fun _ => tot_some _) fun _ => tot_of (Q := fun _ => True) ?_
  refine tp_bind (tp_names13 (l := p[i].fFields) (by omega)) fun ns hns => tp_bind (tp_Twice (by rw [hns, List.length_map]; omega)) fun t ht => tp_ite (fun h0 => ?_) fun _ => tp_of ?_
  · rw [hns, List.length_map] at ht
    rw [idx_in (by simpa using h0) ht, obs, tot_fault13, obs]
    exact tp_some trivial
  · exact tot_bind hL fun _ _ => tot_elim (fun _ => tot_some _) fun _ => tot_some _
theorem tot_Check13 {p : List GClass} (hu : lsum uGClass p ≤ 1048576) : Tot (ref13_Check p) := by
  have hl := len_lsum u1_C p
  unfold ref13_Check
  rw [fuel_len]
  refine tot_bind (tot_Right10 hu) fun _ _ => tot_ite (fun _ => by rw [tot_fault13, obs]; exact tot_some _) fun _ => tot_bind ?_ fun _ _ => tot_elim (fun _ => tot_some _) fun _ => tot_some _
  refine tot_loop1 (ref13_Check_L1 p) p.length (fun n k hlt ih => ?_) (fun n k hlt => ?_) _ 0 (by omega) (by omega)
  · rw [ref13_Check_L1, if_pos (by simpa using hlt), w64_succ hlt (by omega)]
    exact tot_bind (tot_class13 hu hlt) fun _ _ => tot_ite (fun _ => tot_some _) fun _ => ih
  · rw [ref13_Check_L1, if_neg (by simpa using hlt)]; exact tot_some _

theorem mE_mem {l : List GExpr} {e : GExpr} : e ∈ l → mGExpr e ≤ mLGExpr l := by
  induction l with
  | nil => intro h; simp at h
  | cons x l ih =>
    intro h
    simp only [mLGExpr]
    rcases List.mem_cons.1 h with rfl | h
    · omega
    · have := ih h; omega
theorem mS_mem {l : List GStmt} {e : GStmt} : e ∈ l → mGStmt e ≤ mLGStmt l := by
  induction l with
  | nil => intro h; simp at h
  | cons x l ih =>
    intro h
    simp only [mLGStmt]
    rcases List.mem_cons.1 h with rfl | h
    · omega
    · have := ih h; omega
theorem hE_eq (e : GExpr) : mGExpr e = 1 + mLGExpr e.fKids := by cases e; simp only [mGExpr]
theorem hS_eq (e : GStmt) : mGStmt e = 1 + mGExpr e.fE + mLGExpr e.fArgs + mLGStmt e.fBody + mLGStmt e.fElse := by cases e; simp only [mGStmt]
theorem goodE {e : GExpr} (h : goodGExpr e) : e.fKids.length ≤ maxLen ∧ ∀ y ∈ e.fKids, goodGExpr y := by cases h; exact ⟨by assumption, by assumption⟩
theorem goodS {e : GStmt} (h : goodGStmt e) : goodGExpr e.fE ∧ listok (fun y => goodGExpr y) e.fArgs ∧ (e.fBody.length ≤ maxLen ∧ ∀ y ∈ e.fBody, goodGStmt y) ∧ (e.fElse.length ≤ maxLen ∧ ∀ y ∈ e.fElse, goodGStmt y) := by
  cases h
  exact ⟨by assumption, by assumption, ⟨by assumption, by assumption⟩, ⟨by assumption, by assumption⟩⟩
theorem tot_kids : ∀ (n : Nat) (e : GExpr) (d : Int), goodGExpr e → mGExpr e < n → Tot (ref10_kids n e d)
  | 0, e, d, _, h => by omega
  | n + 1, e, d, hg, hm => by
    obtain ⟨hl, hk⟩ := goodE hg
    simp only [maxLen] at hl
    simp only [ref10_kids, fuel_len]
    refine tot_bind (tot_ite (fun _ => tot_some _) (fun _ => tot_some _)) fun x _ => tot_ite (fun _ => tot_some _) fun _ => ?_
    refine tot_bind ?_ fun lr _ => tot_elim (fun v => tot_some _) (fun _ => tot_some _)
    refine tot_loop1 (ref10_kids_L1 e d (ref10_kids n)) e.fKids.length (fun m k hlt ih => ?_) (fun m k hlt => ?_) _ 0 (by omega) (by omega)
    · simp only [ref10_kids_L1]
      rw [if_pos (by simpa using hlt), idx_lt hlt, w64_succ hlt (by omega)]
      simp only [obs]
      have hmem := List.getElem_mem hlt
      have h1 := mE_mem hmem
      rw [hE_eq] at hm
      refine tot_bind (tot_kids n _ _ (hk _ hmem) (by omega)) fun y _ => tot_ite (fun _ => tot_some _) fun _ => ih
    · simp only [ref10_kids_L1]
      rw [if_neg (by simpa using hlt)]
      exact tot_some _
theorem tot_much : ∀ (n : Nat) (e : GStmt) (d : Int), goodGStmt e → mGStmt e < n → Tot (ref10_much n e d)
  | 0, e, d, _, h => by omega
  | n + 1, e, d, hg, hm => by
    obtain ⟨hE, ⟨hal, ha⟩, ⟨hbl, hb⟩, ⟨hll, hl⟩⟩ := goodS hg
    simp only [maxLen] at hal hbl hll
    rw [hS_eq] at hm
    simp only [ref10_much, fuel_len]
    refine tot_bind ?_ fun x _ => tot_ite (fun _ => tot_some _) fun _ => ?_
    · exact tot_ite (fun _ => tot_some _) fun _ => tot_ite (fun _ => tot_some _) fun _ => tot_ite (fun _ => tot_some _) fun _ => tot_ite (fun _ => tot_some _) fun _ => tot_bind (tot_kids _ _ _ hE (by omega)) fun _ _ => tot_some _
    refine tot_bind ?_ fun lr _ => tot_elim (fun v => tot_some _) fun _ => tot_bind ?_ fun lr _ => tot_elim (fun v => tot_some _) fun _ => tot_bind ?_ fun lr _ => tot_elim (fun v => tot_some _) fun _ => tot_some _
    · refine tot_loop1 (ref10_much_L1 e) e.fArgs.length (fun m k hlt ih => ?_) (fun m k hlt => ?_) _ 0 (by omega) (by omega)
      · simp only [ref10_much_L1]
        rw [if_pos (by simpa using hlt), idx_lt hlt, w64_succ hlt (by omega)]
        simp only [obs]
        exact tot_bind (tot_kids _ _ _ (ha _ (List.getElem_mem hlt)) (by omega)) fun y _ => tot_ite (fun _ => tot_some _) fun _ => ih
      · simp only [ref10_much_L1]
        rw [if_neg (by simpa using hlt)]
        exact tot_some _
    · refine tot_loop1 (ref10_much_L2 e d (ref10_much n)) e.fBody.length (fun m k hlt ih => ?_) (fun m k hlt => ?_) _ 0 (by omega) (by omega)
      · simp only [ref10_much_L2]
        rw [if_pos (by simpa using hlt), idx_lt hlt, w64_succ hlt (by omega)]
        simp only [obs]
        have h1 := mS_mem (List.getElem_mem hlt)
        exact tot_bind (tot_much n _ _ (hb _ (List.getElem_mem hlt)) (by omega)) fun y _ => tot_ite (fun _ => tot_some _) fun _ => ih
      · simp only [ref10_much_L2]
        rw [if_neg (by simpa using hlt)]
        exact tot_some _
    · refine tot_loop1 (ref10_much_L3 e d (ref10_much n)) e.fElse.length (fun m k hlt ih => ?_) (fun m k hlt => ?_) _ 0 (by omega) (by omega)
      · simp only [ref10_much_L3]
        rw [if_pos (by simpa using hlt), idx_lt hlt, w64_succ hlt (by omega)]
        simp only [obs]
        have h1 := mS_mem (List.getElem_mem hlt)
        exact tot_bind (tot_much n _ _ (hl _ (List.getElem_mem hlt)) (by omega)) fun y _ => tot_ite (fun _ => tot_some _) fun _ => ih
      · simp only [ref10_much_L3]
        rw [if_neg (by simpa using hlt)]
        exact tot_some _
theorem tot_size : ∀ (n : Nat) (e : GStmt), goodGStmt e → mGStmt e < n → Tot (ref08_Size n e)
  | 0, e, _, h => by omega
  | n + 1, e, hg, hm => by
    obtain ⟨hE, ⟨hal, ha⟩, ⟨hbl, hb⟩, ⟨hll, hl⟩⟩ := goodS hg
    simp only [maxLen] at hbl hll
    rw [hS_eq] at hm
    simp only [ref08_Size, fuel_len]
    refine tot_bind ?_ fun x _ => tot_bind ?_ fun _ _ => tot_some _
    · refine tot_loop2 (ref08_Size_L1 e (ref08_Size n)) e.fBody.length (fun m k s hlt ih => ?_) (fun m k s hlt => ?_) _ 0 _ (by omega) (by omega)
      · simp only [ref08_Size_L1]
        rw [if_pos (by simpa using hlt), idx_lt hlt, w64_succ hlt (by omega)]
        simp only [obs]
        have h1 := mS_mem (List.getElem_mem hlt)
        exact tot_bind (tot_size n _ (hb _ (List.getElem_mem hlt)) (by omega)) fun y _ => ih _
      · simp only [ref08_Size_L1]
        rw [if_neg (by simpa using hlt)]
        exact tot_some _
    · refine tot_loop2 (ref08_Size_L2 e (ref08_Size n)) e.fElse.length (fun m k s hlt ih => ?_) (fun m k s hlt => ?_) _ 0 _ (by omega) (by omega)
      · simp only [ref08_Size_L2]
        rw [if_pos (by simpa using hlt), idx_lt hlt, w64_succ hlt (by omega)]
        simp only [obs]
        have h1 := mS_mem (List.getElem_mem hlt)
        exact tot_bind (tot_size n _ (hl _ (List.getElem_mem hlt)) (by omega)) fun y _ => ih _
      · simp only [ref08_Size_L2]
        rw [if_neg (by simpa using hlt)]
        exact tot_some _
theorem tot_uniques {m : GMethod} (h : goodGMethod m) : Tot (ref10_uniques m) := by
  have hp : m.fParams.length ≤ maxLen := h.2.2.2.1.1
  have hl : m.fLocals.length ≤ maxLen := h.2.2.2.2.1.1
  simp only [maxLen] at hp hl
  simp only [ref10_uniques, fuel_len]
  refine tot_bind ?_ fun x _ => tot_bind ?_ fun _ _ => tot_some _
  · refine tot_loop2 (ref10_uniques_L1 m) m.fParams.length (fun n k s hlt ih => ?_) (fun n k s hlt => ?_) _ 0 _ (by omega) (by omega)
    · simp only [ref10_uniques_L1]
      rw [if_pos (by simpa using hlt), idx_lt hlt, w64_succ hlt (by omega)]
      simp only [obs]
      exact tot_bind (tot_ite (fun _ => tot_some _) fun _ => tot_some _) fun y _ => ih _
    · simp only [ref10_uniques_L1]
      rw [if_neg (by simpa using hlt)]
      exact tot_some _
  · refine tot_loop2 (ref10_uniques_L2 m) m.fLocals.length (fun n k s hlt ih => ?_) (fun n k s hlt => ?_) _ 0 _ (by omega) (by omega)
    · simp only [ref10_uniques_L2]
      rw [if_pos (by simpa using hlt), idx_lt hlt, w64_succ hlt (by omega)]
      simp only [obs]
      exact tot_bind (tot_ite (fun _ => tot_some _) fun _ => tot_some _) fun y _ => ih _
    · simp only [ref10_uniques_L2]
      rw [if_neg (by simpa using hlt)]
      exact tot_some _
/-- It is left with true alone. -/
def TotT {S : Type} (o : Option (Ctl Bool S)) : Prop := o = some (.stop true) ∨ ∃ v, o = some (.next v)
theorem totT_bind {α S : Type} {a : Option α} {f : α → Option (Ctl Bool S)} (h : Tot a) (h2 : ∀ x, a = some x → TotT (f x)) : TotT (Option.bind a f) := by
  obtain ⟨x, rfl⟩ := h
  exact h2 x rfl
theorem totT_ite {S : Type} {b : Bool} {y : Option (Ctl Bool S)} (h2 : b = false → TotT y) : TotT (if b = true then some (.stop true) else y) := by
  cases b with
  | true => exact .inl rfl
  | false => exact h2 rfl
theorem tot_heavy3 {m : GMethod} (hg : listok (fun y => goodGStmt y) m.fBody) : ∀ (n k : Nat) (x : Int), n + k = m.fBody.length + 1 → k ≤ m.fBody.length → TotT (ref10_Heavy_L3 m n x (k : Int))
  | 0, k, x, h, hk => by omega
  | n + 1, k, x, h, hk => by
    obtain ⟨hl, hb⟩ := hg
    simp only [maxLen] at hl
    simp only [ref10_Heavy_L3]
    by_cases hlt : k < m.fBody.length
    · have hmem := hb _ (List.getElem_mem hlt)
      rw [if_pos (by simpa using hlt), idx_lt hlt, w64_succ hlt (by omega)]
      refine totT_bind (tot_ite (fun _ => tot_some _) fun _ => tot_bind (tot_some _) fun y hy => ?_) fun b _ => totT_ite fun _ => ?_
      · cases hy
        exact tot_bind (tot_much _ _ _ hmem (by omega)) fun _ _ => tot_some _
      · refine totT_bind (tot_some _) fun y hy => ?_
        cases hy
        exact totT_bind (tot_size _ _ hmem (by omega)) fun z _ => tot_heavy3 ⟨by simp only [maxLen]; omega, hb⟩ n (k + 1) _ (by omega) (by omega)
    · rw [if_neg (by simpa using hlt)]
      exact .inr ⟨_, rfl⟩
theorem tot_heavy2 {c : GClass} (hg : listok (fun y => goodGMethod y) c.fMethods) : ∀ (n k : Nat) (x : Int), n + k = c.fMethods.length + 1 → k ≤ c.fMethods.length → TotT (ref10_Heavy_L2 c n x (k : Int))
  | 0, k, x, h, hk => by omega
  | n + 1, k, x, h, hk => by
    obtain ⟨hl, hb⟩ := hg
    simp only [maxLen] at hl
    simp only [ref10_Heavy_L2, fuel_len]
    by_cases hlt : k < c.fMethods.length
    · have hmem := hb _ (List.getElem_mem hlt)
      rw [if_pos (by simpa using hlt), idx_lt hlt, w64_succ hlt (by omega)]
      refine totT_bind (tot_some _) fun m hm => ?_
      cases hm
      refine totT_bind (tot_ite (fun _ => tot_some _) fun _ => tot_ite (fun _ => tot_some _) fun _ => tot_ite (fun _ => tot_some _) fun _ => tot_bind (tot_uniques hmem) fun _ _ => tot_some _) fun b _ => totT_ite fun _ => ?_
      rcases tot_heavy3 (m := c.fMethods[k]) hmem.2.2.2.2.2.1 (c.fMethods[k].fBody.length + 1) 0 x (by omega) (by omega) with h3 | ⟨v, h3⟩
      · rw [show (0 : Int) = ((0 : Nat) : Int) from rfl, h3]; exact .inl rfl
      · rw [show (0 : Int) = ((0 : Nat) : Int) from rfl, h3]
        exact tot_heavy2 ⟨by simp only [maxLen]; omega, hb⟩ n (k + 1) v (by omega) (by omega)
    · rw [if_neg (by simpa using hlt)]
      exact .inr ⟨_, rfl⟩
theorem tot_heavy1 {p : List GClass} (hg : listok (fun y => goodGClass y) p) : ∀ (n k : Nat) (x : Int), n + k = p.length + 1 → k ≤ p.length →
    ref10_Heavy_L1 p n x (k : Int) = some (.stop true) ∨ ((∃ v, ref10_Heavy_L1 p n x (k : Int) = some (.next v)) ∧ ∀ c ∈ p.drop k, p.length ≤ 30 ∧ c.fFields.length ≤ 40)
  | 0, k, x, h, hk => by omega
  | n + 1, k, x, h, hk => by
    obtain ⟨hl, hb⟩ := hg
    simp only [maxLen] at hl
    simp only [ref10_Heavy_L1, fuel_len]
    by_cases hlt : k < p.length
    · have hmem := hb _ (List.getElem_mem hlt)
      rw [if_pos (by simpa using hlt), idx_lt hlt, w64_succ hlt (by omega)]
      simp only [obs]
      by_cases h1 : (decide ((p.length : Int) > 30)) = true
      · rw [if_pos h1]; exact .inl rfl
      rw [if_neg h1]
      by_cases h2 : (decide ((p[k].fParams.length : Int) > 20)) = true
      · rw [if_pos h2]; exact .inl rfl
      rw [if_neg h2]
      by_cases h3 : (decide ((p[k].fAbove.length : Int) > 20)) = true
      · rw [if_pos h3]; exact .inl rfl
      rw [if_neg h3]
      by_cases h4 : (decide ((p[k].fFields.length : Int) > 40)) = true
      · rw [if_pos h4]; exact .inl rfl
      rw [if_neg h4]
      simp only [obs]
      by_cases h5 : (decide ((p[k].fMethods.length : Int) > 40)) = true
      · rw [if_pos h5]; exact .inl rfl
      rw [if_neg h5]
      rcases tot_heavy2 (c := p[k]) hmem.2.2.2.2.2.1 (p[k].fMethods.length + 1) 0 x (by omega) (by omega) with h6 | ⟨v, h6⟩
      · rw [show (0 : Int) = ((0 : Nat) : Int) from rfl, h6]; exact .inl rfl
      · rw [show (0 : Int) = ((0 : Nat) : Int) from rfl, h6]
        simp only [obs, Ctl.elim]
        rcases tot_heavy1 (p := p) ⟨by simp only [maxLen]; omega, hb⟩ n (k + 1) v (by omega) (by omega) with h7 | ⟨h7, h8⟩
        · exact .inl h7
        · refine .inr ⟨h7, fun c hc => ?_⟩
          rw [List.drop_eq_getElem_cons hlt] at hc
          rcases List.mem_cons.1 hc with rfl | hc
          · simp at h1 h4; omega
          · exact h8 c hc
    · rw [if_neg (by simpa using hlt), List.drop_eq_nil_of_le (by omega)]
      exact .inr ⟨⟨_, rfl⟩, fun c hc => by simp at hc⟩
theorem heavy_eq {p : List GClass} (hg : listok (fun y => goodGClass y) p) : ∃ b, ref10_Heavy p = some b ∧ (b = false → p.length ≤ 30 ∧ ∀ c ∈ p, c.fFields.length ≤ 40) := by
  simp only [ref10_Heavy, fuel_len]
  rcases tot_heavy1 hg (p.length + 1) 0 0 (by omega) (by omega) with h | ⟨⟨v, h⟩, h2⟩
  · rw [show (0 : Int) = ((0 : Nat) : Int) from rfl] at h ⊢
    rw [h]; exact ⟨true, rfl, fun hb => by cases hb⟩
  · rw [show (0 : Int) = ((0 : Nat) : Int) from rfl] at h ⊢
    rw [h]
    refine ⟨_, rfl, fun _ => ?_⟩
    simp only [List.drop_zero] at h2
    refine ⟨?_, fun c hc => (h2 c hc).2⟩
    cases p with
    | nil => simp
    | cons c p => exact (h2 c (by simp)).1

/-! ### The first method of a name. -/
def meth (c : GClass) (name : List UInt8) : Option GMethod := c.fMethods.find? fun m => m.fName == name
def fstM (p : List GClass) (name : List UInt8) : List Nat → Option (List UInt8 × GMethod)
  | [] => none
  | i :: r => match p[i]? with
    | some c => (match meth c name with | some m => some (c.fName, m) | none => fstM p name r)
    | none => none
def fnd1 (o : Option (List UInt8 × GMethod)) (z : GFound_method) : GFound_method × Bool := match o with | some x => ({ fClass := x.1, fMethod := x.2 }, true) | none => (z, false)
theorem walk_L2 {p : List GClass} {c : GClass} {i : Nat} (hi : p[i]? = some c) (name : List UInt8) (z : GFound_method) (hl : c.fMethods.length ≤ 9223372036854775807) : ∀ (n k : Nat), n + k = c.fMethods.length + 1 → k ≤ c.fMethods.length →
    method_walk_w_L2 name p (i : Int) c n z false (k : Int) = some (match (c.fMethods.drop k).find? (fun m => m.fName == name) with | some m => .stop (({ fClass := c.fName, fMethod := m } : GFound_method), true) | none => .next (z, false))
  | 0, k, h, hk => by omega
  | n + 1, k, h, hk => by
    rw [method_walk_w_L2]
    by_cases hlt : k < c.fMethods.length
    · rw [if_pos (by simpa using hlt), idx_lt hlt, obs, List.drop_eq_getElem_cons hlt, List.find?_cons]
      unfold method_first_1_w
      by_cases hn : (c.fMethods[k].fName == name) = true
      · simp only [hn, if_true, idx_nat, hi, obs]
        rfl
      · simp only [Bool.not_eq_true] at hn
        simp only [hn]
        rw [if_neg (by simp), obs, if_neg (by simp), w64_succ hlt hl]
        exact walk_L2 hi name z hl n (k + 1) (by omega) (by omega)
    · rw [if_neg (by simpa using hlt), List.drop_eq_nil_of_le (by omega)]; rfl
theorem walk_L1 {p : List GClass} (hm : ∀ c ∈ p, c.fMethods.length ≤ 9223372036854775807) (name : List UInt8) (z : GFound_method) (l : List Nat) (hl : ∀ x ∈ l, x < p.length) (hll : l.length ≤ 1000000) : ∀ (n k : Nat), n + k = l.length + 1 → k ≤ l.length →
    method_walk_w_L1 p (l.map Int.ofNat) name p n z false (k : Int) = some (match fstM p name (l.drop k) with | some x => .stop (({ fClass := x.1, fMethod := x.2 } : GFound_method), true) | none => .next (z, false))
  | 0, k, h, hk => by omega
  | n + 1, k, h, hk => by
    rw [method_walk_w_L1]
    by_cases hlt : k < l.length
    · have hx := hl l[k] (List.getElem_mem hlt)
      have hc : p[l[k]]? = some p[l[k]] := List.getElem?_eq_getElem hx
      rw [if_pos (by simpa using hlt), idx_lt (by simpa using hlt), obs, List.getElem_map, show Int.ofNat l[k] = ((l[k] : Nat) : Int) from rfl, idx_nat, hc, obs, fuel_len, show (0 : Int) = ((0 : Nat) : Int) from rfl, walk_L2 hc name z (hm _ (List.getElem_mem hx)) _ 0 (by omega) (by omega), obs, List.drop_zero, List.drop_eq_getElem_cons hlt]
      simp only [fstM, hc, meth]
      cases hf : p[l[k]].fMethods.find? (fun m => m.fName == name) with
      | some m => rfl
      | none =>
        show method_walk_w_L1 p (l.map Int.ofNat) name p n z false (w_i64 ((k : Int) + 1)) = _
        rw [w64_succ hlt (by omega)]
        exact walk_L1 hm name z l hl hll n (k + 1) (by omega) (by omega)
    · rw [if_neg (by simpa using hlt), List.drop_eq_nil_of_le (by omega)]; rfl
def zfm : GFound_method := { fClass := [], fMethod := zGMethod }
theorem method_first_eq {p : List GClass} (hm : ∀ c ∈ p, c.fMethods.length ≤ 9223372036854775807) (name : List UInt8) (l : List Nat) (hl : ∀ x ∈ l, x < p.length) (hll : l.length ≤ 1000000) : method_first p (l.map Int.ofNat) name = some (fnd1 (fstM p name l) zfm) := by
  unfold method_first method_walk_w
  rw [fuel_len, show (0 : Int) = ((0 : Nat) : Int) from rfl, walk_L1 hm name _ l hl hll _ 0 (by simp) (by omega), obs, List.drop_zero]
  cases fstM p name l <;> rfl
theorem ch_lt (p : List GClass) (name : List UInt8) : ∀ x ∈ ch p name, x < p.length := by
  obtain ⟨_, _, _, _, _, _, k7, _⟩ := ch_facts p name
  exact fun x hx => (k7 x hx).1
theorem method_Find_eq {p : List GClass} (hp : p.length ≤ 1000000) (hm : ∀ c ∈ p, c.fMethods.length ≤ 9223372036854775807) (a name : List UInt8) : method_Find p a name = some (fnd1 (fstM p name (ch p a)) zfm) := by
  unfold method_Find
  have := ch_len p a
  rw [above_Chain_eq hp, obs, method_first_eq hm name _ (ch_lt p a) (by omega), obs]
theorem method_Over_eq {p : List GClass} (hp : p.length ≤ 1000000) (hm : ∀ c ∈ p, c.fMethods.length ≤ 9223372036854775807) (a name : List UInt8) : method_Over p a name = some (fnd1 (fstM p name ((ch p a).drop 1)) zfm) := by
  unfold method_Over
  have := ch_len p a
  have hc : cutL ((ch p a).map Int.ofNat) (if (((ch p a).map Int.ofNat).length : Int) < 1 then (((ch p a).map Int.ofNat).length : Int) else 1) ((ch p a).map Int.ofNat).length = some (((ch p a).drop 1).map Int.ofNat) := by
    cases hch : ch p a with
    | nil => rfl
    | cons x l =>
      unfold cutL
      rw [if_neg (show ¬ (((x :: l).map Int.ofNat).length : Int) < 1 by simp; omega), if_pos ⟨by omega, by simp; omega, by omega⟩]
      simp
      exact List.take_of_length_le (by simp)
  rw [above_Chain_eq hp, obs, hc, obs, method_first_eq hm name _ (fun x hx => ch_lt p a x (List.mem_of_mem_drop hx)) (by rw [List.length_drop]; omega), obs]

/-! ### Methods that fit. -/
def akey (t : GType) : Int × List UInt8 × Bool := (t.fKind, if t.fKind = 2 then (t.fClass, decide (t.fOwn.a0.fKind = 6)) else ([], false))
def alikeS (a b : GType) : Bool := decide (akey a = akey b)
theorem unique17 (t : GType) (h : t.fKind = 2) : kind_Unique t = some (decide (t.fOwn.a0.fKind = 6)) := by
  unfold kind_Unique; rw [if_pos (by simp [h])]; rfl
theorem method_Alike_eq (a b : GType) : method_Alike a b = some (alikeS a b) := by
  unfold method_Alike alikeS akey
  by_cases ha : a.fKind = 2
  · by_cases hb : b.fKind = 2
    · rw [if_neg (by simp [ha]), obs, if_neg (by simp [hb]), unique17 a ha, unique17 b hb, obs, obs]
      by_cases hc : a.fClass = b.fClass
      · rw [if_pos (by simpa using hc)]
        congr 1
        rw [Bool.eq_iff_iff]; simp [ha, hb, hc]
      · rw [if_neg (by simpa using hc)]
        congr 1
        symm; rw [decide_eq_false_iff_not]; simp [ha, hb, hc]
    · rw [if_neg (by simp [ha]), obs, if_pos (by simpa using hb)]
      congr 1
      rw [Bool.eq_iff_iff]; simp only [beq_iff_eq, decide_eq_true_eq, Prod.mk.injEq]
      exact ⟨fun h => absurd (h.symm.trans ha) hb, fun h => h.1⟩
  · rw [if_pos (by simpa using ha), obs, if_pos rfl]
    congr 1
    rw [Bool.eq_iff_iff]; simp only [beq_iff_eq, decide_eq_true_eq, Prod.mk.injEq]
    refine ⟨fun h => ⟨h, ?_⟩, fun h => h.1⟩
    rw [if_neg ha, if_neg (by rw [← h]; exact ha)]
def vkey (v : GVar) : Int × List UInt8 × Bool := akey v.fType
theorem eqv_L {a b : List GVar} (he : a.length = b.length) (hl : a.length ≤ 9223372036854775807) (q : GVar → GVar → Option Bool) (hq : ∀ x y, q x y = some (alikeS x.fType y.fType)) : ∀ (n k : Nat), n + k = a.length + 1 → k ≤ a.length →
    slices_EqualFunc_api_Var_L1 a b q n (k : Int) = some (if (a.drop k).map vkey = (b.drop k).map vkey then .next () else .stop false)
  | 0, k, h, hk => by omega
  | n + 1, k, h, hk => by
    rw [slices_EqualFunc_api_Var_L1]
    by_cases hlt : k < a.length
    · have hlb : k < b.length := by omega
      rw [if_pos (by simpa using hlt), idx_lt hlt, idx_lt hlb, obs, obs, hq, obs, List.drop_eq_getElem_cons hlt, List.drop_eq_getElem_cons hlb]
      simp only [List.map_cons, List.cons.injEq]
      by_cases hx : vkey a[k] = vkey b[k]
      · have : alikeS a[k].fType b[k].fType = true := decide_eq_true hx
        rw [this, if_neg (by simp), w64_succ hlt hl, eqv_L he hl q hq n (k + 1) (by omega) (by omega)]
        simp only [hx, true_and]
      · have : alikeS a[k].fType b[k].fType = false := decide_eq_false hx
        rw [this, if_pos (by simp), if_neg (fun h => hx h.1)]
    · rw [if_neg (by simpa using hlt), List.drop_eq_nil_of_le (by omega), List.drop_eq_nil_of_le (by omega)]; rfl
theorem eqv_eq {a b : List GVar} (hl : a.length ≤ 9223372036854775807) : slices_EqualFunc_api_Var a b (fun z5 z6 => method_fits_1 z5 z6) = some (decide (a.map vkey = b.map vkey)) := by
  unfold slices_EqualFunc_api_Var
  by_cases he : a.length = b.length
  · rw [if_neg (by simp [he]), fuel_len, show (0 : Int) = ((0 : Nat) : Int) from rfl, eqv_L he hl _ (fun x y => by unfold method_fits_1; rw [method_Alike_eq, obs]) _ 0 (by omega) (by omega), obs, List.drop_zero, List.drop_zero]
    by_cases h : a.map vkey = b.map vkey
    · rw [if_pos h, decide_eq_true h]; rfl
    · rw [if_neg h, decide_eq_false h]; rfl
  · rw [if_pos (by simp; omega)]
    congr 1; symm; rw [decide_eq_false_iff_not]
    intro h; have := congrArg List.length h; simp at this; exact he this
def fitsS (a b : GMethod) : Bool := (a.fPure || !b.fPure) && (decide (akey a.fRet = akey b.fRet) && decide (a.fParams.map vkey = b.fParams.map vkey))
theorem method_fits_eq {a b : GMethod} (hl : a.fParams.length ≤ 9223372036854775807) : method_fits a b = some (fitsS a b) := by
  unfold method_fits fitsS
  have key : (Option.bind (method_Alike a.fRet b.fRet) fun (y2 : Bool) => if y2 = true then Option.bind (slices_EqualFunc_api_Var a.fParams b.fParams (fun (z5 : GVar) (z6 : GVar) => method_fits_1 z5 z6)) fun (y7 : Bool) => some y7 else some false) = some (decide (akey a.fRet = akey b.fRet) && decide (a.fParams.map vkey = b.fParams.map vkey)) := by
    rw [method_Alike_eq, obs, eqv_eq hl, obs]
    unfold alikeS
    by_cases h : akey a.fRet = akey b.fRet <;> simp [h]
  cases ha : a.fPure with
  | true => rw [if_pos rfl]; simpa using key
  | false =>
    rw [if_neg (by simp)]
    cases hb : b.fPure with
    | true => rw [if_neg (by simp)]; rfl
    | false => rw [if_pos (by simp)]; simpa using key
theorem fits_refl (a : GMethod) : fitsS a a = true := by unfold fitsS; cases a.fPure <;> simp
theorem fits_trans {a b c : GMethod} (h1 : fitsS a b = true) (h2 : fitsS b c = true) : fitsS a c = true := by
  unfold fitsS at *
  simp only [Bool.and_eq_true, decide_eq_true_eq, Bool.or_eq_true, Bool.not_eq_true'] at *
  obtain ⟨p1, r1, l1⟩ := h1; obtain ⟨p2, r2, l2⟩ := h2
  refine ⟨?_, r1.trans r2, l1.trans l2⟩
  rcases p1 with h | h
  · exact .inl h
  · rcases p2 with h' | h'
    · rw [h] at h'; cases h'
    · exact .inr h'
def badM (p : List GClass) (c : GClass) (m : GMethod) : Bool := match fstM p m.fName ((ch p c.fName).drop 1) with | some x => !fitsS m x.2 | none => false
theorem check17_L2 {p : List GClass} (hp : p.length ≤ 1000000) (hm : ∀ c ∈ p, c.fMethods.length ≤ 9223372036854775807) (c : GClass) (hl : c.fMethods.length ≤ 9223372036854775807) (hq : ∀ m ∈ c.fMethods, m.fParams.length ≤ 9223372036854775807) : ∀ (n k : Nat), n + k = c.fMethods.length + 1 → k ≤ c.fMethods.length →
    (∃ f : GFault, method_Check_L2 p c n (k : Int) = some (.stop f) ∧ f.fErr = 17) ∨ (method_Check_L2 p c n (k : Int) = some (.next ()) ∧ ∀ m ∈ c.fMethods.drop k, badM p c m = false)
  | 0, k, h, hk => by omega
  | n + 1, k, h, hk => by
    rw [method_Check_L2]
    by_cases hlt : k < c.fMethods.length
    · rw [if_pos (by simpa using hlt), idx_lt hlt, obs, method_Over_eq hp hm, obs]
      have hb : (Option.bind (if (fnd1 (fstM p c.fMethods[k].fName ((ch p c.fName).drop 1)) zfm).2 = true then
          Option.bind (method_fits c.fMethods[k] (fnd1 (fstM p c.fMethods[k].fName ((ch p c.fName).drop 1)) zfm).1.fMethod) fun (y168 : Bool) => some (!y168) else some false : Option Bool) fun x170 => if x170 = true then some (Ctl.stop ({ fErr := 17, fAt := c.fMethods[k].fAt } : GFault)) else method_Check_L2 p c n (w_i64 ((k : Int) + 1))) =
          if badM p c c.fMethods[k] = true then some (Ctl.stop ({ fErr := 17, fAt := c.fMethods[k].fAt } : GFault)) else method_Check_L2 p c n (w_i64 ((k : Int) + 1)) := by
        unfold badM
        cases fstM p c.fMethods[k].fName ((ch p c.fName).drop 1) with
        | none => rfl
        | some x =>
          show Option.bind (Option.bind (method_fits c.fMethods[k] x.2) fun (y168 : Bool) => some (!y168)) _ = _
          rw [method_fits_eq (hq _ (List.getElem_mem hlt)), obs, obs]
      rw [hb]
      by_cases hbad : badM p c c.fMethods[k] = true
      · rw [if_pos hbad]; exact .inl ⟨_, rfl, rfl⟩
      · rw [if_neg hbad, w64_succ hlt hl]
        rcases check17_L2 hp hm c hl hq n (k + 1) (by omega) (by omega) with h1 | ⟨h1, h2⟩
        · exact .inl h1
        · refine .inr ⟨h1, fun m hmm => ?_⟩
          rw [List.drop_eq_getElem_cons hlt] at hmm
          rcases List.mem_cons.1 hmm with rfl | hmm
          · simpa using hbad
          · exact h2 m hmm
    · rw [if_neg (by simpa using hlt), List.drop_eq_nil_of_le (by omega)]
      exact .inr ⟨rfl, fun m hmm => by simp at hmm⟩
theorem check17_L1 {p : List GClass} (hp : p.length ≤ 1000000) (hm : ∀ c ∈ p, c.fMethods.length ≤ 9223372036854775807) (hq : ∀ c ∈ p, ∀ m ∈ c.fMethods, m.fParams.length ≤ 9223372036854775807) : ∀ (n k : Nat), n + k = p.length + 1 → k ≤ p.length →
    (∃ f : GFault, method_Check_L1 p n (k : Int) = some (.stop f) ∧ f.fErr = 17) ∨ (method_Check_L1 p n (k : Int) = some (.next ()) ∧ ∀ c ∈ p.drop k, ∀ m ∈ c.fMethods, badM p c m = false)
  | 0, k, h, hk => by omega
  | n + 1, k, h, hk => by
    rw [method_Check_L1]
    by_cases hlt : k < p.length
    · have hmem := List.getElem_mem hlt
      rw [if_pos (by simpa using hlt), idx_lt hlt, obs, fuel_len, show (0 : Int) = ((0 : Nat) : Int) from rfl]
      rcases check17_L2 hp hm p[k] (hm _ hmem) (hq _ hmem) (p[k].fMethods.length + 1) 0 (by omega) (by omega) with ⟨f, h1, h2⟩ | ⟨h1, h2⟩
      · rw [h1]; exact .inl ⟨f, rfl, h2⟩
      · rw [h1, obs]
        show (∃ f : GFault, method_Check_L1 p n (w_i64 ((k : Int) + 1)) = some (.stop f) ∧ f.fErr = 17) ∨ (method_Check_L1 p n (w_i64 ((k : Int) + 1)) = some (.next ()) ∧ _)
        rw [w64_succ hlt (by omega)]
        rcases check17_L1 hp hm hq n (k + 1) (by omega) (by omega) with h3 | ⟨h3, h4⟩
        · exact .inl h3
        · refine .inr ⟨h3, fun c hc => ?_⟩
          rw [List.drop_eq_getElem_cons hlt] at hc
          rcases List.mem_cons.1 hc with rfl | hc
          · simpa using h2
          · exact h4 c hc
    · rw [if_neg (by simpa using hlt), List.drop_eq_nil_of_le (by omega)]
      exact .inr ⟨rfl, fun c hc => by simp at hc⟩
theorem method_Check_or {p : List GClass} (hp : p.length ≤ 1000000) (hm : ∀ c ∈ p, c.fMethods.length ≤ 9223372036854775807) (hq : ∀ c ∈ p, ∀ m ∈ c.fMethods, m.fParams.length ≤ 9223372036854775807) : ∃ f : GFault, method_Check p = some f ∧ (f.fErr ≠ 0 ∨ (f.fErr = 0 ∧ ∀ c ∈ p, ∀ m ∈ c.fMethods, badM p c m = false)) := by
  unfold method_Check
  rw [fuel_len, show (0 : Int) = ((0 : Nat) : Int) from rfl]
  rcases check17_L1 hp hm hq (p.length + 1) 0 (by omega) (by omega) with ⟨f, h1, h2⟩ | ⟨h1, h2⟩
  · rw [h1]; exact ⟨f, rfl, .inl (by omega)⟩
  · rw [h1]; exact ⟨_, rfl, .inr ⟨rfl, by simpa using h2⟩⟩

theorem fstM_mem {p : List GClass} {name : List UInt8} : ∀ {l : List Nat} {x : List UInt8 × GMethod}, fstM p name l = some x → ∃ i ∈ l, ∃ c, p[i]? = some c ∧ c.fName = x.1 ∧ x.2 ∈ c.fMethods ∧ x.2.fName = name
  | [], x, h => by cases h
  | i :: r, x, h => by
    simp only [fstM] at h
    split at h
    · rename_i c hc
      split at h
      · rename_i m hm
        cases h
        unfold meth at hm
        exact ⟨i, by simp, c, hc, rfl, List.mem_of_find?_eq_some hm, by have := List.find?_some hm; simpa using this⟩
      · obtain ⟨j, hj, r⟩ := fstM_mem h
        exact ⟨j, by simp [hj], r⟩
    · cases h
/-- What is found above is found below, and fits. -/
theorem keeps_up {p : List GClass} (hchk : (chk p).fErr = 0) (hbad : ∀ c ∈ p, ∀ m ∈ c.fMethods, badM p c m = false) {N b : List UInt8} {j : Nat} (hb : fi p b = some j) {x : List UInt8 × GMethod} (hx : fstM p N (upN p (p.length + 1) b) = some x) :
    ∀ (n : Nat) (a : List UInt8), (upN p (p.length + 1) a).length = n → j ∈ upN p (p.length + 1) a → ∃ y, fstM p N (upN p (p.length + 1) a) = some y ∧ fitsS y.2 x.2 = true ∧ bel p y.1 x.1 = true
  | 0, a, hl, hm => by rw [List.length_eq_zero_iff.1 hl] at hm; cases hm
  | n + 1, a, hl, hm => by
    obtain ⟨i, hi⟩ : ∃ i, fi p a = some i := by
      cases h : fi p a with
      | some i => exact ⟨i, rfl⟩
      | none => simp only [upN, h] at hm; cases hm
    have hac := acyclic hchk hi
    -- where the found class stands
    obtain ⟨e, he, c, hc, hcn, hcm, _⟩ := fstM_mem hx
    have hfe : fi p x.1 = some e := by
      obtain ⟨_, _, _, _, _, _, k7, _⟩ := ch_facts p b
      obtain ⟨_, nm, hnm⟩ := k7 e (mem_up.1 he)
      obtain ⟨c', hc', hn'⟩ := fi_spec hnm
      rw [hc] at hc'; cases hc'
      rw [← hcn, hn']; exact hnm
    obtain ⟨pre, hpre, hnp⟩ := upN_suf (p.length + 1) a b j hac hm hb
    have hea : e ∈ upN p (p.length + 1) a := by rw [hpre]; simp [he]
    by_cases hij : i = j
    · subst hij
      have : upN p (p.length + 1) a = upN p (p.length + 1) b := upN_fi (by rw [hi, hb]) _
      rw [this]
      refine ⟨x, hx, fits_refl _, ?_⟩
      unfold bel
      rw [hfe]
      obtain ⟨_, _, _, k4, _⟩ := ch_facts p x.1
      exact decide_eq_true (k4 e hfe)
    · have ht := upN_tail (n := p.length) hi
      obtain ⟨ci, hci, hcin⟩ := fi_spec hi
      by_cases hs : (sup p i == []) = true
      · rw [ht, if_pos hs] at hm
        simp at hm; exact absurd hm.symm hij
      · rw [if_neg hs] at ht
        have hlen : (upN p p.length (sup p i)).length < p.length := by rw [ht] at hac; simp only [List.length_cons] at hac; omega
        have hup : upN p (p.length + 1) (sup p i) = upN p p.length (sup p i) := upN_more _ _ hlen
        rw [← hup] at ht
        have hm' : j ∈ upN p (p.length + 1) (sup p i) := by
          rw [ht] at hm; exact (List.mem_cons.1 hm).resolve_left (fun h => hij h.symm)
        obtain ⟨y', h1, h2, h3⟩ := keeps_up hchk hbad hb hx n (sup p i) (by rw [ht] at hl; simpa using hl) hm'
        have hch : ch p ci.fName = i :: upN p (p.length + 1) (sup p i) := by rw [hcin, ch_up hac, ht]
        rw [ht]
        simp only [fstM, hci]
        cases hme : meth ci N with
        | none => exact ⟨y', h1, h2, h3⟩
        | some m =>
          refine ⟨(ci.fName, m), rfl, ?_, ?_⟩
          · unfold meth at hme
            have hmm := List.mem_of_find?_eq_some hme
            have hmn : m.fName = N := by have := List.find?_some hme; simpa using this
            have hbm := hbad ci (List.mem_of_getElem? hci) m hmm
            unfold badM at hbm
            rw [hmn, hch, List.drop_succ_cons, List.drop_zero, h1] at hbm
            exact fits_trans (by simpa using hbm) h2
          · unfold bel
            rw [hfe]
            exact decide_eq_true (by rw [hcin]; exact mem_up.1 hea)
theorem awake17_true : law17_awake = some true := by decide +kernel
theorem alike_L {a b : GFound_method × Bool} (he : a.1.fMethod.fParams.map vkey = b.1.fMethod.fParams.map vkey) (hl : a.1.fMethod.fParams.length ≤ 9223372036854775807) : ∀ (n k : Nat), n + k = a.1.fMethod.fParams.length + 1 → k ≤ a.1.fMethod.fParams.length → law17_MethodKeeps_L1 a b n (k : Int) = some (.next ())
  | 0, k, h, hk => by omega
  | n + 1, k, h, hk => by
    have hlen : a.1.fMethod.fParams.length = b.1.fMethod.fParams.length := by have := congrArg List.length he; simpa using this
    rw [law17_MethodKeeps_L1]
    by_cases hlt : k < a.1.fMethod.fParams.length
    · have hx : alikeS a.1.fMethod.fParams[k].fType (b.1.fMethod.fParams[k]'(by omega)).fType = true := by
        have := congrArg (fun l => l[k]?) he
        simp only [List.getElem?_map, List.getElem?_eq_getElem hlt, List.getElem?_eq_getElem (show k < b.1.fMethod.fParams.length by omega), Option.map_some, Option.some.injEq] at this
        exact decide_eq_true this
      rw [if_pos (by simpa using hlt), idx_lt hlt, idx_lt (show k < b.1.fMethod.fParams.length by omega), obs, obs, method_Alike_eq, hx, obs, if_neg (by simp), w64_succ hlt hl]
      exact alike_L he hl n (k + 1) (by omega) (by omega)
    · rw [if_neg (by simpa using hlt)]
theorem law17_MethodKeeps_true {a0 : List GClass} {a1 : A2 (List UInt8)} {a2 : List UInt8} (h0 : listok (fun y => goodGClass y) a0) (_h1 : strok a1.a0 ∧ strok a1.a1) (_h2 : strok a2) (hu : lsum uGClass a0 + 1 ≤ 1048576) : law17_MethodKeeps a0 a1 a2 = some true := by
  have haw := awake17_true
  have hl := len_lsum u1_C a0
  unfold law17_MethodKeeps
  obtain ⟨b1, hb1, hg1⟩ := heavy_eq h0
  obtain ⟨f, hf⟩ := tot_Check13 (p := a0) (by omega)
  rw [hb1, obs]
  cases b1 with
  | true => rw [if_pos rfl, obs, if_pos rfl, haw, obs]
  | false =>
  have hp := (hg1 rfl).1
  have hm : ∀ c ∈ a0, c.fMethods.length ≤ 9223372036854775807 := fun c hc => by
    have := (h0.2 c hc).2.2.2.2.2.1.1
    simp only [maxLen] at this; omega
  have hq : ∀ c ∈ a0, ∀ m ∈ c.fMethods, m.fParams.length ≤ 9223372036854775807 := fun c hc m hmm => by
    have := ((h0.2 c hc).2.2.2.2.2.1.2 m hmm).2.2.2.1.1
    simp only [maxLen] at this; omega
  rw [if_neg (by simp), hf, obs]
  by_cases e0 : f.fErr = 0
  case neg => rw [if_pos (by simpa using e0), obs, if_pos rfl, haw, obs]
  rw [if_neg (by simpa using e0), ref_Check_eq (by omega), obs]
  by_cases e1 : (chk a0).fErr = 0
  case neg => rw [if_pos (by simpa using e1), obs, if_pos rfl, haw, obs]
  rw [if_neg (by simpa using e1)]
  obtain ⟨g, hg, hg2⟩ := method_Check_or (p := a0) (by omega) hm hq
  rw [hg, obs]
  rcases hg2 with e2 | ⟨e2, hbad⟩
  · rw [if_pos (by simpa using e2), obs, if_pos rfl, haw, obs]
  rw [if_neg (by simp [e2]), ref_Below_eq (by omega), obs, obs]
  by_cases hB : bel a0 a1.a0 a1.a1 = true
  case neg => rw [if_pos (by simpa using hB), haw, obs]
  rw [if_neg (by simp [hB]), method_Find_eq (by omega) hm, method_Find_eq (by omega) hm, obs, obs]
  cases hx : fstM a0 a2 (ch a0 a1.a1) with
  | none => rw [if_pos (by simp [fnd1]), haw, obs]
  | some x =>
    unfold bel at hB
    cases hj : fi a0 a1.a1 with
    | none => rw [hj] at hB; cases hB
    | some j =>
      rw [hj] at hB
      have hmj : j ∈ ch a0 a1.a0 := of_decide_eq_true hB
      obtain ⟨i, hi⟩ : ∃ i, fi a0 a1.a0 = some i := by
        cases h : fi a0 a1.a0 with
        | some i => exact ⟨i, rfl⟩
        | none =>
          have : ch a0 a1.a0 = [] := by unfold ch chN; rw [h]
          rw [this] at hmj; simp at hmj
      have ha1 := acyclic e1 hi
      have ha2 := acyclic e1 hj
      obtain ⟨y, hy, hfit, hbel⟩ := keeps_up e1 hbad hj (x := x) (N := a2) (by rw [← ch_up ha2]; exact hx) _ a1.a0 rfl (mem_up.2 hmj)
      rw [ch_up ha1, hy]
      rw [show fnd1 (some x) zfm = (({ fClass := x.1, fMethod := x.2 } : GFound_method), true) from rfl, show fnd1 (some y) zfm = (({ fClass := y.1, fMethod := y.2 } : GFound_method), true) from rfl]
      unfold fitsS at hfit
      simp only [Bool.and_eq_true, decide_eq_true_eq, Bool.or_eq_true, Bool.not_eq_true'] at hfit
      obtain ⟨f1, f2, f3⟩ := hfit
      have hlen : y.2.fParams.length = x.2.fParams.length := by have := congrArg List.length f3; simpa using this
      have hret : alikeS x.2.fRet y.2.fRet = true := decide_eq_true f2.symm
      rw [if_neg (by simp), if_neg (by simp), ref_Below_eq (by omega), hbel, obs, if_neg (by simp), method_Alike_eq, hret]
      have hxl : x.2.fParams.length ≤ 9223372036854775807 := by
        obtain ⟨k, _, c, hc, _, hcm, _⟩ := fstM_mem hx
        exact hq c (List.mem_of_getElem? hc) _ hcm
      have hfin : (Option.bind (law17_MethodKeeps_L1 (({ fClass := x.1, fMethod := x.2 } : GFound_method), true) (({ fClass := y.1, fMethod := y.2 } : GFound_method), true) ((((x.2.fParams.length : Int) : Int) - (0)).toNat + 1) 0) fun lr95 =>
        Ctl.elim lr95 (fun v => some v) fun _ =>
        Option.bind law17_awake fun (y97 : Bool) =>
        some y97) = some true := by
        rw [fuel_len, show (0 : Int) = ((0 : Nat) : Int) from rfl, alike_L (a := (({ fClass := x.1, fMethod := x.2 } : GFound_method), true)) (b := (({ fClass := y.1, fMethod := y.2 } : GFound_method), true)) f3.symm hxl _ 0 (by simp) (by omega), obs]
        show Option.bind law17_awake _ = _
        rw [haw, obs]
      by_cases hpu : x.2.fPure = true
      · have hyp : y.2.fPure = true := f1.resolve_right (by simp [hpu])
        rw [if_pos hpu, if_neg (by simp [hyp]), if_neg (by simp [hlen]), obs, obs, if_neg (by simp)]
        exact hfin
      · rw [if_neg hpu, if_neg (by simp [hlen]), obs, obs, if_neg (by simp)]
        exact hfin

end Go.Proofs.Ytahieoaggbmicaa
