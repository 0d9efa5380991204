/- A part of the proof that the law MethodFind gives true for every input. -/
import Derived.Test.YtahieoaggbmicaaMethodFindA2
import Derived.Test.YtahieoaggbmicaaMethodFindA3
import Derived.Test.YtahieoaggbmicaaMethodFindT
import Derived.Test.YtahieoaggbmicaaMethodFindD
/- The plain law. -/
namespace Go.Proofs.Ytahieoaggbmicaa
open Go.RowKit Go.Abs
/-! ### The first class of a name. -/
def fiN : List GClass → Nat → List UInt8 → Option Nat
  | [], _, _ => none
  | c :: t, k, name => if c.fName == name then some k else fiN t (k + 1) name
def fi (p : List GClass) (name : List UInt8) : Option Nat := fiN p 0 name
def fnd (p : List GClass) (name : List UInt8) : Int := match fi p name with | some i => (i : Int) | none => -1
theorem fiN_spec : ∀ (l : List GClass) (k : Nat) (name : List UInt8) (i : Nat), fiN l k name = some i → k ≤ i ∧ ∃ c, l[i - k]? = some c ∧ c.fName = name
  | [], k, name, i, h => by simp [fiN] at h
  | c :: t, k, name, i, h => by
    simp only [fiN] at h
    split at h
    · rename_i hc
      cases h
      exact ⟨Nat.le_refl _, c, by simp, by simpa using hc⟩
    · obtain ⟨h1, c', h2, h3⟩ := fiN_spec t (k + 1) name i h
      refine ⟨by omega, c', ?_, h3⟩
      rw [show i - k = (i - (k + 1)) + 1 by omega, List.getElem?_cons_succ]
      exact h2
theorem fiN_some : ∀ (l : List GClass) (k : Nat) (c : GClass), c ∈ l → ∃ i, fiN l k c.fName = some i
  | [], k, c, h => by simp at h
  | c' :: t, k, c, h => by
    simp only [fiN]
    split
    · exact ⟨k, rfl⟩
    · rename_i hc
      rcases List.mem_cons.1 h with rfl | h
      · simp at hc
      · exact fiN_some t (k + 1) c h
theorem fi_spec {p : List GClass} {name : List UInt8} {i : Nat} (h : fi p name = some i) : ∃ c, p[i]? = some c ∧ c.fName = name := by
  obtain ⟨_, c, h1, h2⟩ := fiN_spec p 0 name i h
  exact ⟨c, by simpa using h1, h2⟩
theorem fi_lt {p : List GClass} {name : List UInt8} {i : Nat} (h : fi p name = some i) : i < p.length := by
  obtain ⟨c, h1, _⟩ := fi_spec h
  exact (List.getElem?_eq_some_iff.1 h1).1
theorem fi_some {p : List GClass} {c : GClass} (h : c ∈ p) : ∃ i, fi p c.fName = some i := fiN_some p 0 c h
theorem fnd_some {p : List GClass} {name : List UInt8} {i : Nat} (h : fi p name = some i) : fnd p name = (i : Int) := by unfold fnd; rw [h]
theorem fnd_none {p : List GClass} {name : List UInt8} (h : fi p name = none) : fnd p name = -1 := by unfold fnd; rw [h]
/-- What a loop over a list that stops at the first hit comes to. -/
def hit (o : Option Nat) : Ctl Int Unit := match o with | some i => .stop (i : Int) | none => .next ()

theorem indexFunc_L {p : List GClass} (name : List UInt8) (hp : p.length < 9223372036854775806) : ∀ (n k : Nat), n + k = p.length + 1 → k ≤ p.length →
    slices_IndexFunc_api_Class_L1 p (fun (z1 : GClass) => table_Find_1 z1 name) n (k : Int) = some (hit (fiN (p.drop k) k name))
  | 0, k, h, hk => by omega
  | n + 1, k, h, hk => by
    simp only [slices_IndexFunc_api_Class_L1]
    by_cases hlt : k < p.length
    · rw [if_pos (by simpa using hlt), idx_lt hlt, List.drop_eq_getElem_cons hlt]
      simp only [obs, table_Find_1, fiN]
      by_cases hc : (p[k].fName == name) = true
      · rw [if_pos hc, if_pos hc]; rfl
      · rw [if_neg hc, if_neg hc, w64_succ hlt (by omega)]
        exact indexFunc_L name hp n (k + 1) (by omega) (by omega)
    · rw [if_neg (by simpa using hlt), List.drop_eq_nil_of_le (by omega)]
      rfl
theorem table_Find_eq {p : List GClass} (hp : p.length < 9223372036854775806) (name : List UInt8) : table_Find p name = some (fnd p name) := by
  unfold table_Find slices_IndexFunc_api_Class
  have h := indexFunc_L name hp (p.length + 1) 0 (by omega) (by omega)
  rw [show (((p.length : Int) : Int) - (0)).toNat + 1 = p.length + 1 by omega, show (0 : Int) = ((0 : Nat) : Int) from rfl, h]
  simp only [List.drop_zero, obs]
  unfold fnd fi hit
  cases fiN p 0 name <;> rfl

theorem ref13_Find_L {p : List GClass} (name : List UInt8) (hp : p.length < 9223372036854775806) : ∀ (n k : Nat), n + k = p.length + 1 → k ≤ p.length →
    ref13_Find_L1 p name n (k : Int) = some (hit (fiN (p.drop k) k name))
  | 0, k, h, hk => by omega
  | n + 1, k, h, hk => by
    simp only [ref13_Find_L1]
    by_cases hlt : k < p.length
    · rw [if_pos (by simpa using hlt), idx_lt hlt, List.drop_eq_getElem_cons hlt]
      simp only [obs, fiN]
      by_cases hc : (p[k].fName == name) = true
      · rw [if_pos hc, if_pos hc]; rfl
      · rw [if_neg hc, if_neg hc, w64_succ hlt (by omega)]
        exact ref13_Find_L name hp n (k + 1) (by omega) (by omega)
    · rw [if_neg (by simpa using hlt), List.drop_eq_nil_of_le (by omega)]
      rfl
theorem ref13_Find_eq {p : List GClass} (hp : p.length < 9223372036854775806) (name : List UInt8) : ref13_Find p name = some (fnd p name) := by
  unfold ref13_Find
  have h := ref13_Find_L name hp (p.length + 1) 0 (by omega) (by omega)
  rw [show (((p.length : Int) : Int) - (0)).toNat + 1 = p.length + 1 by omega, show (0 : Int) = ((0 : Nat) : Int) from rfl, h]
  simp only [List.drop_zero, obs]
  unfold fnd fi hit
  cases fiN p 0 name <;> rfl

/-! ### The walk up. -/
/-- The class that stands at `i`, its name's super. -/
def sup (p : List GClass) (i : Nat) : List UInt8 := match p[i]? with | some c => c.fSuper | none => []
def upN (p : List GClass) : Nat → List UInt8 → List Nat
  | 0, _ => []
  | n + 1, name => match fi p name with
    | none => []
    | some i => if sup p i == [] then [i] else i :: upN p n (sup p i)
theorem itR_up_n_eq {p : List GClass} (hp : p.length < 9223372036854775806) : ∀ (n : Nat) (name : List UInt8), itR_up_n p n name = some ((upN p n name).map Int.ofNat)
  | 0, name => rfl
  | n + 1, name => by
    simp only [itR_up_n, upN, table_Find_eq hp, obs]
    cases hf : fi p name with
    | none => rw [fnd_none hf]; simp
    | some i =>
      rw [fnd_some hf, if_neg (by omega)]
      obtain ⟨c, hc, _⟩ := fi_spec hf
      have hidx : idx p (i : Int) = some c := by rw [idx_nat]; exact hc
      rw [hidx]
      have hs : sup p i = c.fSuper := by unfold sup; rw [hc]
      simp only [obs, hs]
      by_cases he : (c.fSuper == []) = true
      · rw [if_pos he, if_pos he]; rfl
      · rw [if_neg he, if_neg he, itR_up_n_eq hp n c.fSuper]; rfl
theorem itR_up_eq {p : List GClass} (hp : p.length < 9223372036854775806) (name : List UInt8) : itR_up p name = some ((upN p (p.length + 1) name).map Int.ofNat) := by
  unfold itR_up; rw [if_pos hp, itR_up_n_eq hp]

/-- The chain: up to the first one that comes twice. -/
def chN (p : List GClass) : Nat → List Nat → List UInt8 → List Nat
  | 0, out, _ => out
  | n + 1, out, name => match fi p name with
    | none => out
    | some i => if i ∈ out then out else if sup p i == [] then out ++ [i] else chN p n (out ++ [i]) (sup p i)
def ch (p : List GClass) (name : List UInt8) : List Nat := chN p (p.length + 1) [] name

theorem nodup_len : ∀ (L : Nat) (l : List Nat), l.Nodup → (∀ x ∈ l, x < L) → l.length ≤ L
  | 0, l, _, h => by
    cases l with
    | nil => exact Nat.le_refl _
    | cons x l => have := h x (by simp); omega
  | L + 1, l, hn, h => by
    have h1 := nodup_len L (l.erase L) (hn.erase L) (fun x hx => by
      have := (hn.mem_erase_iff.1 hx)
      have := h x this.2
      omega)
    by_cases hm : L ∈ l
    · have := List.length_erase_of_mem hm; omega
    · rw [List.erase_of_not_mem hm] at h1; omega

/-- What holds on the way up. -/
structure Way (p : List GClass) (out : List Nat) (name : List UInt8) : Prop where
  nd : out.Nodup
  lt : ∀ x ∈ out, x < p.length
  nx : ∀ x ∈ out, sup p x ≠ [] ∧ (sup p x = name ∨ ∃ j, fi p (sup p x) = some j ∧ j ∈ out)
  own : ∀ x ∈ out, ∃ nm, fi p nm = some x

theorem Way.nil (p : List GClass) (name : List UInt8) : Way p [] name := ⟨List.nodup_nil, by simp, by simp, by simp⟩
theorem Way.snoc {p : List GClass} {out : List Nat} {name : List UInt8} {i : Nat} (h : Way p out name) (hf : fi p name = some i) (hi : i ∉ out) (hs : sup p i ≠ []) : Way p (out ++ [i]) (sup p i) := by
  refine ⟨?_, fun x hx => ?_, fun x hx => ?_, fun x hx => ?_⟩
  · refine List.nodup_append.2 ⟨h.nd, by simp, fun a ha b hb => ?_⟩
    simp at hb; subst hb; rintro rfl; exact hi ha
  · rcases List.mem_append.1 hx with hx | hx
    · exact h.lt x hx
    · simp at hx; subst hx; exact fi_lt hf
  · rcases List.mem_append.1 hx with hx | hx
    · obtain ⟨h1, h2⟩ := h.nx x hx
      refine ⟨h1, .inr ?_⟩
      rcases h2 with h2 | ⟨j, h2, h3⟩
      · exact ⟨i, by rw [h2]; exact hf, by simp⟩
      · exact ⟨j, h2, by simp [h3]⟩
    · simp at hx; subst hx; exact ⟨hs, .inl rfl⟩
  · rcases List.mem_append.1 hx with hx | hx
    · exact h.own x hx
    · simp at hx; subst hx; exact ⟨name, hf⟩

/-- A set of classes that one does not leave upwards. -/
def Shut (p : List GClass) (S : List Nat) : Prop := ∀ x ∈ S, sup p x ≠ [] → ∀ j, fi p (sup p x) = some j → j ∈ S
theorem upN_shut {p : List GClass} {S : List Nat} (h : Shut p S) : ∀ (n : Nat) (name : List UInt8), (∀ j, fi p name = some j → j ∈ S) → ∀ x ∈ upN p n name, x ∈ S
  | 0, name, _, x, hx => by simp [upN] at hx
  | n + 1, name, hs, x, hx => by
    simp only [upN] at hx
    cases hf : fi p name with
    | none => rw [hf] at hx; simp at hx
    | some i =>
      rw [hf] at hx
      have hi := hs i hf
      simp only at hx
      split at hx
      · simp at hx; subst hx; exact hi
      · rename_i he
        rcases List.mem_cons.1 hx with rfl | hx
        · exact hi
        · exact upN_shut h n _ (fun j hj => h i hi (by simpa using he) j hj) x hx
/-- .. where each has one above it: the walk never ends. -/
theorem upN_round {p : List GClass} {S : List Nat} (h : ∀ x ∈ S, sup p x ≠ [] ∧ ∃ j, fi p (sup p x) = some j ∧ j ∈ S) : ∀ (n : Nat) (name : List UInt8) (i : Nat), fi p name = some i → i ∈ S → (upN p n name).length = n
  | 0, name, i, _, _ => rfl
  | n + 1, name, i, hf, hi => by
    obtain ⟨h1, j, h2, h3⟩ := h i hi
    simp only [upN, hf]
    rw [if_neg (by simpa using h1)]
    simp [upN_round h n _ j h2 h3]

/-- Did the chain end because one came twice? -/
def back (p : List GClass) (l : List Nat) : Bool := match l.getLast? with
  | none => false
  | some i => !(sup p i == []) && (match fi p (sup p i) with | some j => decide (j ∈ l) | none => false)

/-- **The walk and the chain.** -/
theorem upN_chN {p : List GClass} : ∀ (n : Nat) (out : List Nat) (name : List UInt8), n + out.length = p.length + 1 → Way p out name → (out = [] ∨ ∃ x, out.getLast? = some x ∧ sup p x = name) →
    ∃ R, out ++ upN p n name = chN p n out name ++ R ∧ (∀ x ∈ R, x ∈ chN p n out name) ∧ (∀ x ∈ out, x ∈ chN p n out name) ∧ (∀ j, fi p name = some j → j ∈ chN p n out name) ∧ Shut p (chN p n out name) ∧ (chN p n out name).Nodup ∧ (∀ x ∈ chN p n out name, x < p.length ∧ ∃ nm, fi p nm = some x) ∧
      (back p (chN p n out name) = decide ((upN p n name).length = n))
  | 0, out, name, hn, hw, hl => by
    exfalso
    have := nodup_len p.length out hw.nd hw.lt
    omega
  | n + 1, out, name, hn, hw, hl => by
    have hlen := nodup_len p.length out hw.nd hw.lt
    cases hf : fi p name with
    | none =>
      simp only [upN, chN, hf]
      refine ⟨[], by simp, by simp, fun x hx => hx, by simp, fun x hx hne j hj => ?_, hw.nd, fun x hx => ⟨hw.lt x hx, hw.own x hx⟩, ?_⟩
      · rcases (hw.nx x hx).2 with h1 | ⟨j', h1, h2⟩
        · rw [h1, hf] at hj; cases hj
        · rw [h1] at hj; cases hj; exact h2
      · have : back p out = false := by
          unfold back
          rcases hl with rfl | ⟨x, h1, h2⟩
          · rfl
          · rw [h1]; simp only [h2, hf, Bool.and_false]
        rw [this]; simp
    | some i =>
      simp only [upN, chN, hf]
      by_cases hi : i ∈ out
      · rw [if_pos hi]
        have hround : ∀ x ∈ out, sup p x ≠ [] ∧ ∃ j, fi p (sup p x) = some j ∧ j ∈ out := by
          intro x hx
          obtain ⟨h1, h2⟩ := hw.nx x hx
          refine ⟨h1, ?_⟩
          rcases h2 with h2 | h2
          · exact ⟨i, by rw [h2]; exact hf, hi⟩
          · exact h2
        have hshut : Shut p out := fun x hx _ j hj => by
          obtain ⟨_, j', h1, h2⟩ := hround x hx
          rw [h1] at hj; cases hj; exact h2
        have hsub := upN_shut hshut (n + 1) name (fun j hj => by rw [hf] at hj; cases hj; exact hi)
        have hfull := upN_round hround (n + 1) name i hf hi
        simp only [upN, hf] at hsub hfull
        refine ⟨_, rfl, hsub, fun x hx => hx, fun j hj => by cases hj; exact hi, hshut, hw.nd, fun x hx => ⟨hw.lt x hx, hw.own x hx⟩, ?_⟩
        rw [hfull]
        have : back p out = true := by
          unfold back
          rcases hl with rfl | ⟨x, h1, h2⟩
          · simp at hi
          · have hx : x ∈ out := List.mem_of_getLast? h1
            rw [h1]
            simp only [h2, hf, hi, decide_true, Bool.and_true]
            have := (hw.nx x hx).1
            rw [h2] at this
            simpa using this
        rw [this]; simp
      · rw [if_neg hi]
        by_cases hs : (sup p i == []) = true
        · rw [if_pos hs, if_pos hs]
          have hs' : sup p i = [] := by simpa using hs
          have hw2 : (out ++ [i]).Nodup := List.nodup_append.2 ⟨hw.nd, by simp, fun a ha b hb => by
            simp at hb; subst hb; rintro rfl; exact hi ha⟩
          have hlt2 : ∀ x ∈ out ++ [i], x < p.length := fun x hx => by
            rcases List.mem_append.1 hx with hx | hx
            · exact hw.lt x hx
            · simp at hx; subst hx; exact fi_lt hf
          have hlen2 := nodup_len p.length _ hw2 hlt2
          refine ⟨[], by simp, by simp, fun x hx => by simp [hx], fun j hj => by cases hj; simp, fun x hx hne j hj => ?_, hw2, fun x hx => ⟨hlt2 x hx, ?_⟩, ?_⟩
          · rcases List.mem_append.1 hx with hx | hx
            · rcases (hw.nx x hx).2 with h1 | ⟨j', h1, h2⟩
              · rw [h1, hf] at hj; cases hj; simp
              · rw [h1] at hj; cases hj; simp [h2]
            · simp at hx; subst hx; exact absurd hs' hne
          · rcases List.mem_append.1 hx with hx | hx
            · exact hw.own x hx
            · simp at hx; subst hx; exact ⟨name, hf⟩
          · have : back p (out ++ [i]) = false := by
              unfold back; simp [hs']
            rw [this]
            simp at hlen2
            simp; omega
        · rw [if_neg hs, if_neg hs]
          have hs' : sup p i ≠ [] := by simpa using hs
          obtain ⟨R, k1, k2, k3, k4, k5, k6, k7, k8⟩ := upN_chN n (out ++ [i]) (sup p i) (by simp; omega) (hw.snoc hf hi hs') (.inr ⟨i, by simp, rfl⟩)
          refine ⟨R, by rw [← k1]; simp, k2, fun x hx => k3 x (by simp [hx]), fun j hj => by cases hj; exact k3 i (by simp), k5, k6, k7, ?_⟩
          rw [k8]; simp
/-- The facts about a name's chain. -/
theorem ch_facts (p : List GClass) (name : List UInt8) : ∃ R, upN p (p.length + 1) name = ch p name ++ R ∧ (∀ x ∈ R, x ∈ ch p name) ∧ (∀ j, fi p name = some j → j ∈ ch p name) ∧ Shut p (ch p name) ∧ (ch p name).Nodup ∧ (∀ x ∈ ch p name, x < p.length ∧ ∃ nm, fi p nm = some x) ∧
    (back p (ch p name) = decide ((upN p (p.length + 1) name).length = p.length + 1)) := by
  obtain ⟨R, k1, k2, k3, k4, k5, k6, k7, k8⟩ := upN_chN (p.length + 1) [] name (by simp) (Way.nil p name) (.inl rfl)
  exact ⟨R, by unfold ch; simpa using k1, k2, k4, k5, k6, k7, k8⟩
theorem mem_up {p : List GClass} {name : List UInt8} {x : Nat} : x ∈ upN p (p.length + 1) name ↔ x ∈ ch p name := by
  obtain ⟨R, k1, k2, _⟩ := ch_facts p name
  rw [k1]
  constructor
  · intro h
    rcases List.mem_append.1 h with h | h
    · exact h
    · exact k2 x h
  · intro h; simp [h]

/-! ### Chains, by the program and by the document. -/
theorem idxI_L {l : List Int} (a : Int) (hp : l.length < 9223372036854775806) : ∀ (n k : Nat), n + k = l.length + 1 → k ≤ l.length →
    ∃ r, slices_Index_int_L1 l a n (k : Int) = some r ∧ ((∃ v : Int, r = .stop v ∧ 0 ≤ v ∧ a ∈ l.drop k) ∨ (r = .next () ∧ a ∉ l.drop k))
  | 0, k, h, hk => by omega
  | n + 1, k, h, hk => by
    simp only [slices_Index_int_L1]
    by_cases hlt : k < l.length
    · rw [if_pos (by simpa using hlt), idx_lt hlt, List.drop_eq_getElem_cons hlt]
      simp only [obs]
      by_cases hc : (a == l[k]) = true
      · rw [if_pos hc]
        have hc' : a = l[k] := by simpa using hc
        exact ⟨_, rfl, .inl ⟨_, rfl, by omega, by rw [hc']; exact List.mem_cons_self⟩⟩
      · rw [if_neg hc, w64_succ hlt (by omega)]
        obtain ⟨r, h1, h2⟩ := idxI_L a hp n (k + 1) (by omega) (by omega)
        refine ⟨r, h1, ?_⟩
        have hne : a ≠ l[k] := by simpa using hc
        rcases h2 with ⟨v, h3, h4, h5⟩ | ⟨h3, h4⟩
        · exact .inl ⟨v, h3, h4, List.mem_cons_of_mem _ h5⟩
        · exact .inr ⟨h3, fun hm => (List.mem_cons.1 hm).elim hne h4⟩
    · rw [if_neg (by simpa using hlt), List.drop_eq_nil_of_le (by omega)]
      exact ⟨_, rfl, .inr ⟨rfl, by simp⟩⟩
theorem contains_eq {l : List Int} (hp : l.length < 9223372036854775806) (a : Int) : slices_Contains_int l a = some (decide (a ∈ l)) := by
  unfold slices_Contains_int slices_Index_int
  obtain ⟨r, h1, h2⟩ := idxI_L a hp (l.length + 1) 0 (by omega) (by omega)
  rw [show (((l.length : Int) : Int) - (0)).toNat + 1 = l.length + 1 by omega, show (0 : Int) = ((0 : Nat) : Int) from rfl, h1]
  rcases h2 with ⟨v, rfl, h3, h4⟩ | ⟨rfl, h4⟩
  · simp only [obs, Ctl.elim]
    simp only [List.drop_zero] at h4
    simp [h4, h3]
  · simp only [obs, Ctl.elim]
    simp only [List.drop_zero] at h4
    simp [h4]
theorem mem_cast {i : Nat} {l : List Nat} : ((i : Int) ∈ l.map Int.ofNat) ↔ i ∈ l := by
  rw [List.mem_map]
  constructor
  · rintro ⟨j, h1, h2⟩
    have : j = i := Int.ofNat.inj h2
    exact this ▸ h1
  · intro h; exact ⟨i, h, rfl⟩

theorem chain_runs {p : List GClass} (hp : p.length ≤ 1000000) : ∀ (n : Nat) (out : List Nat) (name : List UInt8), n + out.length = p.length + 1 →
    ∃ r, runs above_Chain_B1 ((upN p n name).map Int.ofNat) (out.map Int.ofNat) = some r ∧ Ctl.elim r (fun x => x) (fun x => x) = (chN p n out name).map Int.ofNat
  | 0, out, name, _ => ⟨_, rfl, rfl⟩
  | n + 1, out, name, hn => by
    have hout : (out.map Int.ofNat).length < 9223372036854775806 := by simp; omega
    have hroom : room (((out.map Int.ofNat).length : Int) + (([(0 : Int)].length : Nat) : Int)) 8 = some () := room_ok (by simp; omega)
    simp only [upN, chN]
    cases hf : fi p name with
    | none => exact ⟨_, rfl, rfl⟩
    | some i =>
      simp only
      have hstep : ∀ rest, runs above_Chain_B1 (((i : Nat) :: rest).map Int.ofNat) (out.map Int.ofNat) = if i ∈ out then some (.stop (out.map Int.ofNat)) else runs above_Chain_B1 (rest.map Int.ofNat) ((out ++ [i]).map Int.ofNat) := by
        intro rest
        simp only [List.map_cons, runs, above_Chain_B1]
        rw [contains_eq hout]
        simp only [obs]
        by_cases hi : i ∈ out
        · have : Int.ofNat i ∈ out.map Int.ofNat := mem_cast.2 hi
          rw [if_pos hi, if_pos (by simpa using this)]
          rfl
        · have hni : ¬ Int.ofNat i ∈ out.map Int.ofNat := fun h => hi (mem_cast.1 h)
          rw [if_neg hi, if_neg (by simpa using hni)]
          rw [show (([Int.ofNat i].length : Nat) : Int) = (([(0 : Int)].length : Nat) : Int) from rfl, hroom]
          simp [obs, Ctl.elim]
      by_cases hi : i ∈ out
      · rw [if_pos hi]
        split
        · rw [hstep, if_pos hi]; exact ⟨_, rfl, rfl⟩
        · rw [hstep, if_pos hi]; exact ⟨_, rfl, rfl⟩
      · rw [if_neg hi]
        by_cases hs : (sup p i == []) = true
        · rw [if_pos hs, if_pos hs, hstep, if_neg hi]
          exact ⟨_, rfl, rfl⟩
        · rw [if_neg hs, if_neg hs, hstep, if_neg hi]
          exact chain_runs hp n (out ++ [i]) (sup p i) (by simp; omega)
theorem above_Chain_eq {p : List GClass} (hp : p.length ≤ 1000000) (name : List UInt8) : above_Chain p name = some ((ch p name).map Int.ofNat) := by
  unfold above_Chain above_up
  simp only [obs]
  rw [itR_up_eq (by omega)]
  simp only [obs]
  obtain ⟨r, h1, h2⟩ := chain_runs hp (p.length + 1) [] name (by simp)
  rw [show ([] : List Int) = ([] : List Nat).map Int.ofNat from rfl, h1]
  unfold ch
  rw [← h2]
  cases r <;> rfl
theorem ch_len (p : List GClass) (name : List UInt8) : (ch p name).length ≤ p.length := by
  obtain ⟨_, _, _, _, _, k6, k7, _⟩ := ch_facts p name
  exact nodup_len _ _ k6 (fun x hx => (k7 x hx).1)
theorem ch_ne {p : List GClass} {name : List UInt8} {i : Nat} (h : fi p name = some i) : ch p name ≠ [] := by
  obtain ⟨_, _, _, k4, _⟩ := ch_facts p name
  intro e
  have := k4 i h
  rw [e] at this; simp at this

theorem has_L {l : List Int} (a : Int) (hp : l.length < 9223372036854775806) : ∀ (n k : Nat), n + k = l.length + 1 → k ≤ l.length →
    ref14_has_L1 l a n (k : Int) = some (if a ∈ l.drop k then .stop true else .next ())
  | 0, k, h, hk => by omega
  | n + 1, k, h, hk => by
    simp only [ref14_has_L1]
    by_cases hlt : k < l.length
    · rw [if_pos (by simpa using hlt), idx_lt hlt, List.drop_eq_getElem_cons hlt]
      simp only [obs]
      by_cases hc : (l[k] == a) = true
      · rw [if_pos hc]
        simp at hc
        rw [if_pos (by rw [← hc]; exact List.mem_cons_self)]
      · rw [if_neg hc, w64_succ hlt (by omega), has_L a hp n (k + 1) (by omega) (by omega)]
        have hne : a ≠ l[k] := fun e => hc (by simp [e])
        have e : (a ∈ l[k] :: l.drop (k + 1)) ↔ a ∈ l.drop (k + 1) := ⟨fun hm => (List.mem_cons.1 hm).resolve_left hne, List.mem_cons_of_mem _⟩
        simp only [e]
    · rw [if_neg (by simpa using hlt), List.drop_eq_nil_of_le (by omega)]
      simp
theorem has_eq {l : List Int} (hp : l.length < 9223372036854775806) (a : Int) : ref14_has l a = some (decide (a ∈ l)) := by
  unfold ref14_has
  have h := has_L a hp (l.length + 1) 0 (by omega) (by omega)
  rw [show (((l.length : Int) : Int) - (0)).toNat + 1 = l.length + 1 by omega, show (0 : Int) = ((0 : Nat) : Int) from rfl, h]
  simp only [obs, List.drop_zero]
  by_cases hm : a ∈ l
  · simp [hm, Ctl.elim]
  · simp [hm, Ctl.elim]

theorem refChain_L {p : List GClass} (hp : p.length ≤ 1000000) : ∀ (n : Nat) (out : List Nat) (name : List UInt8), n + out.length = p.length + 1 → Way p out name →
    ∃ r, ref14_Chain_L1 p (n + 1) (out.map Int.ofNat) (fnd p name) = some r ∧ Ctl.elim r (fun x => x) (fun x => x) = (chN p n out name).map Int.ofNat
  | 0, out, name, hn, hw => by
    exfalso
    have := nodup_len p.length out hw.nd hw.lt
    omega
  | n + 1, out, name, hn, hw => by
    have hout : (out.map Int.ofNat).length < 9223372036854775806 := by simp; omega
    have hroom : ∀ z : Int, room (((out.map Int.ofNat).length : Int) + (([z].length : Nat) : Int)) 8 = some () := fun z => room_ok (by simp; omega)
    simp only [ref14_Chain_L1]
    cases hf : fi p name with
    | none =>
      rw [fnd_none hf]
      refine ⟨.next (out.map Int.ofNat), rfl, ?_⟩
      simp [chN, hf, Ctl.elim]
    | some i =>
      rw [fnd_some hf, has_eq hout]
      obtain ⟨c, hc, _⟩ := fi_spec hf
      have hidx : idx p (i : Int) = some c := by rw [idx_nat]; exact hc
      have hsup : sup p i = c.fSuper := by unfold sup; rw [hc]
      have hd : decide ((i : Int) ≥ 0) = true := by simp
      rw [if_pos hd]
      simp only [chN, hf, obs, hroom, hidx]
      by_cases hi : i ∈ out
      · rw [if_neg (by simpa using mem_cast.2 hi), if_pos hi]
        exact ⟨_, rfl, rfl⟩
      · have hni : ¬ (i : Int) ∈ out.map Int.ofNat := fun h => hi (mem_cast.1 h)
        rw [if_pos (by simpa using hni), if_neg hi]
        have hcat : out.map Int.ofNat ++ [(i : Int)] = (out ++ [i]).map Int.ofNat := by simp
        rw [hcat, hsup]
        by_cases hs : (c.fSuper == []) = true
        · rw [if_pos hs, if_pos hs]
          exact ⟨_, rfl, rfl⟩
        · rw [if_neg hs, if_neg hs, ref13_Find_eq (by omega)]
          simp only [obs]
          have hs' : sup p i ≠ [] := by rw [hsup]; simpa using hs
          have := refChain_L hp n (out ++ [i]) (sup p i) (by simp; omega) (hw.snoc hf hi hs')
          rw [hsup] at this
          exact this
theorem ref_Chain_eq {p : List GClass} (hp : p.length ≤ 1000000) (name : List UInt8) : ref14_Chain p name = some ((ch p name).map Int.ofNat) := by
  unfold ref14_Chain
  rw [ref13_Find_eq (by omega)]
  obtain ⟨r, h1, h2⟩ := refChain_L hp (p.length + 1) [] name (by simp) (Way.nil p name)
  simp only [obs]
  rw [show p.length + 2 = p.length + 1 + 1 from rfl, show ([] : List Int) = ([] : List Nat).map Int.ofNat from rfl, h1]
  unfold ch
  rw [← h2]
  cases r <;> rfl

/-! ### What never fails. -/
def Tot {α : Type} (o : Option α) : Prop := ∃ r, o = some r
theorem tot_some {α : Type} (x : α) : Tot (some x) := ⟨x, rfl⟩
theorem tot_bind {α β : Type} {a : Option α} {f : α → Option β} (h : Tot a) (h2 : ∀ x, a = some x → Tot (f x)) : Tot (Option.bind a f) := by
  obtain ⟨x, rfl⟩ := h
  exact h2 x rfl
theorem tot_ite {α : Type} {b : Bool} {x y : Option α} (h1 : b = true → Tot x) (h2 : b = false → Tot y) : Tot (if b = true then x else y) := by
  cases b with
  | true => exact h1 rfl
  | false => exact h2 rfl
theorem tot_elim {R S α : Type} {r : Ctl R S} {f : R → Option α} {g : S → Option α} (h1 : ∀ v, Tot (f v)) (h2 : ∀ s, Tot (g s)) : Tot (Ctl.elim r f g) := by
  cases r with
  | stop v => exact h1 v
  | next s => exact h2 s
theorem tot_loop1 {ρ : Type} (F : Nat → Int → Option ρ) (len : Nat) (h1 : ∀ (n k : Nat), k < len → Tot (F n ((k + 1 : Nat) : Int)) → Tot (F (n + 1) (k : Int))) (h2 : ∀ (n k : Nat), ¬ k < len → Tot (F (n + 1) (k : Int))) :
    ∀ (n k : Nat), n + k = len + 1 → k ≤ len → Tot (F n (k : Int))
  | 0, k, h, hk => by omega
  | n + 1, k, h, hk => by
    by_cases hlt : k < len
    · exact h1 n k hlt (tot_loop1 F len h1 h2 n (k + 1) (by omega) (by omega))
    · exact h2 n k hlt
theorem tot_loop2 {σ ρ : Type} (F : Nat → σ → Int → Option ρ) (len : Nat) (h1 : ∀ (n k : Nat) (s : σ), k < len → (∀ s', Tot (F n s' ((k + 1 : Nat) : Int))) → Tot (F (n + 1) s (k : Int))) (h2 : ∀ (n k : Nat) (s : σ), ¬ k < len → Tot (F (n + 1) s (k : Int))) :
    ∀ (n k : Nat) (s : σ), n + k = len + 1 → k ≤ len → Tot (F n s (k : Int))
  | 0, k, s, h, hk => by omega
  | n + 1, k, s, h, hk => by
    by_cases hlt : k < len
    · exact h1 n k s hlt (fun s' => tot_loop2 F len h1 h2 n (k + 1) s' (by omega) (by omega))
    · exact h2 n k s hlt
theorem fuel_len (m : Nat) : (((m : Int) : Int) - (0)).toNat + 1 = m + 1 := by omega

theorem mE_mem {l : List GExpr} {e : GExpr} : e ∈ l → mGExpr e ≤ mLGExpr l := by
  induction l with
  | nil => intro h; simp at h
  | cons x l ih =>
    intro h
    simp only [mLGExpr]
    rcases List.mem_cons.1 h with rfl | h
    · omega
    · have := ih h; omega
theorem mS_mem {l : List GStmt} {e : GStmt} : e ∈ l → mGStmt e ≤ mLGStmt l := by
  induction l with
  | nil => intro h; simp at h
  | cons x l ih =>
    intro h
    simp only [mLGStmt]
    rcases List.mem_cons.1 h with rfl | h
    · omega
    · have := ih h; omega
theorem mE_eq (e : GExpr) : mGExpr e = 1 + mLGExpr e.fKids := by cases e; simp only [mGExpr]
theorem mS_eq (e : GStmt) : mGStmt e = 1 + mGExpr e.fE + mLGExpr e.fArgs + mLGStmt e.fBody + mLGStmt e.fElse := by cases e; simp only [mGStmt]
theorem goodE {e : GExpr} (h : goodGExpr e) : e.fKids.length ≤ maxLen ∧ ∀ y ∈ e.fKids, goodGExpr y := by cases h; exact ⟨by assumption, by assumption⟩
theorem goodS {e : GStmt} (h : goodGStmt e) : goodGExpr e.fE ∧ listok (fun y => goodGExpr y) e.fArgs ∧ (e.fBody.length ≤ maxLen ∧ ∀ y ∈ e.fBody, goodGStmt y) ∧ (e.fElse.length ≤ maxLen ∧ ∀ y ∈ e.fElse, goodGStmt y) := by
  cases h
  exact ⟨by assumption, by assumption, ⟨by assumption, by assumption⟩, ⟨by assumption, by assumption⟩⟩
theorem tot_kids : ∀ (n : Nat) (e : GExpr) (d : Int), goodGExpr e → mGExpr e < n → Tot (ref10_kids n e d)
  | 0, e, d, _, h => by omega
  | n + 1, e, d, hg, hm => by
    obtain ⟨hl, hk⟩ := goodE hg
    simp only [maxLen] at hl
    simp only [ref10_kids, fuel_len]
    refine tot_bind (tot_ite (fun _ => tot_some _) (fun _ => tot_some _)) fun x _ => tot_ite (fun _ => tot_some _) fun _ => ?_
    refine tot_bind ?_ fun lr _ => tot_elim (fun v => tot_some _) (fun _ => tot_some _)
    refine tot_loop1 (ref10_kids_L1 e d (ref10_kids n)) e.fKids.length (fun m k hlt ih => ?_) (fun m k hlt => ?_) _ 0 (by omega) (by omega)
    · simp only [ref10_kids_L1]
      rw [if_pos (by simpa using hlt), idx_lt hlt, w64_succ hlt (by omega)]
      simp only [obs]
      have hmem := List.getElem_mem hlt
      have h1 := mE_mem hmem
      rw [mE_eq] at hm
      refine tot_bind (tot_kids n _ _ (hk _ hmem) (by omega)) fun y _ => tot_ite (fun _ => tot_some _) fun _ => ih
    · simp only [ref10_kids_L1]
      rw [if_neg (by simpa using hlt)]
      exact tot_some _
theorem tot_much : ∀ (n : Nat) (e : GStmt) (d : Int), goodGStmt e → mGStmt e < n → Tot (ref10_much n e d)
  | 0, e, d, _, h => by omega
  | n + 1, e, d, hg, hm => by
    obtain ⟨hE, ⟨hal, ha⟩, ⟨hbl, hb⟩, ⟨hll, hl⟩⟩ := goodS hg
    simp only [maxLen] at hal hbl hll
    rw [mS_eq] at hm
    simp only [ref10_much, fuel_len]
    refine tot_bind ?_ fun x _ => tot_ite (fun _ => tot_some _) fun _ => ?_
    · exact tot_ite (fun _ => tot_some _) fun _ => tot_ite (fun _ => tot_some _) fun _ => tot_ite (fun _ => tot_some _) fun _ => tot_ite (fun _ => tot_some _) fun _ => tot_bind (tot_kids _ _ _ hE (by omega)) fun _ _ => tot_some _
    refine tot_bind ?_ fun lr _ => tot_elim (fun v => tot_some _) fun _ => tot_bind ?_ fun lr _ => tot_elim (fun v => tot_some _) fun _ => tot_bind ?_ fun lr _ => tot_elim (fun v => tot_some _) fun _ => tot_some _
    · refine tot_loop1 (ref10_much_L1 e) e.fArgs.length (fun m k hlt ih => ?_) (fun m k hlt => ?_) _ 0 (by omega) (by omega)
      · simp only [ref10_much_L1]
        rw [if_pos (by simpa using hlt), idx_lt hlt, w64_succ hlt (by omega)]
        simp only [obs]
        exact tot_bind (tot_kids _ _ _ (ha _ (List.getElem_mem hlt)) (by omega)) fun y _ => tot_ite (fun _ => tot_some _) fun _ => ih
      · simp only [ref10_much_L1]
        rw [if_neg (by simpa using hlt)]
        exact tot_some _
    · refine tot_loop1 (ref10_much_L2 e d (ref10_much n)) e.fBody.length (fun m k hlt ih => ?_) (fun m k hlt => ?_) _ 0 (by omega) (by omega)
      · simp only [ref10_much_L2]
        rw [if_pos (by simpa using hlt), idx_lt hlt, w64_succ hlt (by omega)]
        simp only [obs]
        have h1 := mS_mem (List.getElem_mem hlt)
        exact tot_bind (tot_much n _ _ (hb _ (List.getElem_mem hlt)) (by omega)) fun y _ => tot_ite (fun _ => tot_some _) fun _ => ih
      · simp only [ref10_much_L2]
        rw [if_neg (by simpa using hlt)]
        exact tot_some _
    · refine tot_loop1 (ref10_much_L3 e d (ref10_much n)) e.fElse.length (fun m k hlt ih => ?_) (fun m k hlt => ?_) _ 0 (by omega) (by omega)
      · simp only [ref10_much_L3]
        rw [if_pos (by simpa using hlt), idx_lt hlt, w64_succ hlt (by omega)]
        simp only [obs]
        have h1 := mS_mem (List.getElem_mem hlt)
        exact tot_bind (tot_much n _ _ (hl _ (List.getElem_mem hlt)) (by omega)) fun y _ => tot_ite (fun _ => tot_some _) fun _ => ih
      · simp only [ref10_much_L3]
        rw [if_neg (by simpa using hlt)]
        exact tot_some _
theorem tot_size : ∀ (n : Nat) (e : GStmt), goodGStmt e → mGStmt e < n → Tot (ref08_Size n e)
  | 0, e, _, h => by omega
  | n + 1, e, hg, hm => by
    obtain ⟨hE, ⟨hal, ha⟩, ⟨hbl, hb⟩, ⟨hll, hl⟩⟩ := goodS hg
    simp only [maxLen] at hbl hll
    rw [mS_eq] at hm
    simp only [ref08_Size, fuel_len]
    refine tot_bind ?_ fun x _ => tot_bind ?_ fun _ _ => tot_some _
    · refine tot_loop2 (ref08_Size_L1 e (ref08_Size n)) e.fBody.length (fun m k s hlt ih => ?_) (fun m k s hlt => ?_) _ 0 _ (by omega) (by omega)
      · simp only [ref08_Size_L1]
        rw [if_pos (by simpa using hlt), idx_lt hlt, w64_succ hlt (by omega)]
        simp only [obs]
        have h1 := mS_mem (List.getElem_mem hlt)
        exact tot_bind (tot_size n _ (hb _ (List.getElem_mem hlt)) (by omega)) fun y _ => ih _
      · simp only [ref08_Size_L1]
        rw [if_neg (by simpa using hlt)]
        exact tot_some _
    · refine tot_loop2 (ref08_Size_L2 e (ref08_Size n)) e.fElse.length (fun m k s hlt ih => ?_) (fun m k s hlt => ?_) _ 0 _ (by omega) (by omega)
      · simp only [ref08_Size_L2]
        rw [if_pos (by simpa using hlt), idx_lt hlt, w64_succ hlt (by omega)]
        simp only [obs]
        have h1 := mS_mem (List.getElem_mem hlt)
        exact tot_bind (tot_size n _ (hl _ (List.getElem_mem hlt)) (by omega)) fun y _ => ih _
      · simp only [ref08_Size_L2]
        rw [if_neg (by simpa using hlt)]
        exact tot_some _
theorem tot_uniques {m : GMethod} (h : goodGMethod m) : Tot (ref10_uniques m) := by
  have hp : m.fParams.length ≤ maxLen := h.2.2.2.1.1
  have hl : m.fLocals.length ≤ maxLen := h.2.2.2.2.1.1
  simp only [maxLen] at hp hl
  simp only [ref10_uniques, fuel_len]
  refine tot_bind ?_ fun x _ => tot_bind ?_ fun _ _ => tot_some _
  · refine tot_loop2 (ref10_uniques_L1 m) m.fParams.length (fun n k s hlt ih => ?_) (fun n k s hlt => ?_) _ 0 _ (by omega) (by omega)
    · simp only [ref10_uniques_L1]
      rw [if_pos (by simpa using hlt), idx_lt hlt, w64_succ hlt (by omega)]
      simp only [obs]
      exact tot_bind (tot_ite (fun _ => tot_some _) fun _ => tot_some _) fun y _ => ih _
    · simp only [ref10_uniques_L1]
      rw [if_neg (by simpa using hlt)]
      exact tot_some _
  · refine tot_loop2 (ref10_uniques_L2 m) m.fLocals.length (fun n k s hlt ih => ?_) (fun n k s hlt => ?_) _ 0 _ (by omega) (by omega)
    · simp only [ref10_uniques_L2]
      rw [if_pos (by simpa using hlt), idx_lt hlt, w64_succ hlt (by omega)]
      simp only [obs]
      exact tot_bind (tot_ite (fun _ => tot_some _) fun _ => tot_some _) fun y _ => ih _
    · simp only [ref10_uniques_L2]
      rw [if_neg (by simpa using hlt)]
      exact tot_some _
/-- It is left with true alone. -/
def TotT {S : Type} (o : Option (Ctl Bool S)) : Prop := o = some (.stop true) ∨ ∃ v, o = some (.next v)
theorem totT_bind {α S : Type} {a : Option α} {f : α → Option (Ctl Bool S)} (h : Tot a) (h2 : ∀ x, a = some x → TotT (f x)) : TotT (Option.bind a f) := by
  obtain ⟨x, rfl⟩ := h
  exact h2 x rfl
theorem totT_ite {S : Type} {b : Bool} {y : Option (Ctl Bool S)} (h2 : b = false → TotT y) : TotT (if b = true then some (.stop true) else y) := by
  cases b with
  | true => exact .inl rfl
  | false => exact h2 rfl
theorem tot_heavy3 {m : GMethod} (hg : listok (fun y => goodGStmt y) m.fBody) : ∀ (n k : Nat) (x : Int), n + k = m.fBody.length + 1 → k ≤ m.fBody.length → TotT (ref10_Heavy_L3 m n x (k : Int))
  | 0, k, x, h, hk => by omega
  | n + 1, k, x, h, hk => by
    obtain ⟨hl, hb⟩ := hg
    simp only [maxLen] at hl
    simp only [ref10_Heavy_L3]
    by_cases hlt : k < m.fBody.length
    · have hmem := hb _ (List.getElem_mem hlt)
      rw [if_pos (by simpa using hlt), idx_lt hlt, w64_succ hlt (by omega)]
      refine totT_bind (tot_ite (fun _ => tot_some _) fun _ => tot_bind (tot_some _) fun y hy => ?_) fun b _ => totT_ite fun _ => ?_
      · cases hy
        exact tot_bind (tot_much _ _ _ hmem (by omega)) fun _ _ => tot_some _
      · refine totT_bind (tot_some _) fun y hy => ?_
        cases hy
        exact totT_bind (tot_size _ _ hmem (by omega)) fun z _ => tot_heavy3 ⟨by simp only [maxLen]; omega, hb⟩ n (k + 1) _ (by omega) (by omega)
    · rw [if_neg (by simpa using hlt)]
      exact .inr ⟨_, rfl⟩
theorem tot_heavy2 {c : GClass} (hg : listok (fun y => goodGMethod y) c.fMethods) : ∀ (n k : Nat) (x : Int), n + k = c.fMethods.length + 1 → k ≤ c.fMethods.length → TotT (ref10_Heavy_L2 c n x (k : Int))
  | 0, k, x, h, hk => by omega
  | n + 1, k, x, h, hk => by
    obtain ⟨hl, hb⟩ := hg
    simp only [maxLen] at hl
    simp only [ref10_Heavy_L2, fuel_len]
    by_cases hlt : k < c.fMethods.length
    · have hmem := hb _ (List.getElem_mem hlt)
      rw [if_pos (by simpa using hlt), idx_lt hlt, w64_succ hlt (by omega)]
      refine totT_bind (tot_some _) fun m hm => ?_
      cases hm
      refine totT_bind (tot_ite (fun _ => tot_some _) fun _ => tot_ite (fun _ => tot_some _) fun _ => tot_ite (fun _ => tot_some _) fun _ => tot_bind (tot_uniques hmem) fun _ _ => tot_some _) fun b _ => totT_ite fun _ => ?_
      rcases tot_heavy3 (m := c.fMethods[k]) hmem.2.2.2.2.2.1 (c.fMethods[k].fBody.length + 1) 0 x (by omega) (by omega) with h3 | ⟨v, h3⟩
      · rw [show (0 : Int) = ((0 : Nat) : Int) from rfl, h3]; exact .inl rfl
      · rw [show (0 : Int) = ((0 : Nat) : Int) from rfl, h3]
        exact tot_heavy2 ⟨by simp only [maxLen]; omega, hb⟩ n (k + 1) v (by omega) (by omega)
    · rw [if_neg (by simpa using hlt)]
      exact .inr ⟨_, rfl⟩
theorem tot_heavy1 {p : List GClass} (hg : listok (fun y => goodGClass y) p) : ∀ (n k : Nat) (x : Int), n + k = p.length + 1 → k ≤ p.length →
    ref10_Heavy_L1 p n x (k : Int) = some (.stop true) ∨ ((∃ v, ref10_Heavy_L1 p n x (k : Int) = some (.next v)) ∧ ∀ c ∈ p.drop k, p.length ≤ 30 ∧ c.fFields.length ≤ 40)
  | 0, k, x, h, hk => by omega
  | n + 1, k, x, h, hk => by
    obtain ⟨hl, hb⟩ := hg
    simp only [maxLen] at hl
    simp only [ref10_Heavy_L1, fuel_len]
    by_cases hlt : k < p.length
    · have hmem := hb _ (List.getElem_mem hlt)
      rw [if_pos (by simpa using hlt), idx_lt hlt, w64_succ hlt (by omega)]
      simp only [obs]
      by_cases h1 : (decide ((p.length : Int) > 30)) = true
      · rw [if_pos h1]; exact .inl rfl
      rw [if_neg h1]
      by_cases h2 : (decide ((p[k].fParams.length : Int) > 20)) = true
      · rw [if_pos h2]; exact .inl rfl
      rw [if_neg h2]
      by_cases h3 : (decide ((p[k].fAbove.length : Int) > 20)) = true
      · rw [if_pos h3]; exact .inl rfl
      rw [if_neg h3]
      by_cases h4 : (decide ((p[k].fFields.length : Int) > 40)) = true
      · rw [if_pos h4]; exact .inl rfl
      rw [if_neg h4]
      simp only [obs]
      by_cases h5 : (decide ((p[k].fMethods.length : Int) > 40)) = true
      · rw [if_pos h5]; exact .inl rfl
      rw [if_neg h5]
      rcases tot_heavy2 (c := p[k]) hmem.2.2.2.2.2.1 (p[k].fMethods.length + 1) 0 x (by omega) (by omega) with h6 | ⟨v, h6⟩
      · rw [show (0 : Int) = ((0 : Nat) : Int) from rfl, h6]; exact .inl rfl
      · rw [show (0 : Int) = ((0 : Nat) : Int) from rfl, h6]
        simp only [obs, Ctl.elim]
        rcases tot_heavy1 (p := p) ⟨by simp only [maxLen]; omega, hb⟩ n (k + 1) v (by omega) (by omega) with h7 | ⟨h7, h8⟩
        · exact .inl h7
        · refine .inr ⟨h7, fun c hc => ?_⟩
          rw [List.drop_eq_getElem_cons hlt] at hc
          rcases List.mem_cons.1 hc with rfl | hc
          · simp at h1 h4; omega
          · exact h8 c hc
    · rw [if_neg (by simpa using hlt), List.drop_eq_nil_of_le (by omega)]
      exact .inr ⟨⟨_, rfl⟩, fun c hc => by simp at hc⟩
theorem heavy_eq {p : List GClass} (hg : listok (fun y => goodGClass y) p) : ∃ b, ref10_Heavy p = some b ∧ (b = false → p.length ≤ 30 ∧ ∀ c ∈ p, c.fFields.length ≤ 40) := by
  simp only [ref10_Heavy, fuel_len]
  rcases tot_heavy1 hg (p.length + 1) 0 0 (by omega) (by omega) with h | ⟨⟨v, h⟩, h2⟩
  · rw [show (0 : Int) = ((0 : Nat) : Int) from rfl] at h ⊢
    rw [h]; exact ⟨true, rfl, fun hb => by cases hb⟩
  · rw [show (0 : Int) = ((0 : Nat) : Int) from rfl] at h ⊢
    rw [h]
    refine ⟨_, rfl, fun _ => ?_⟩
    simp only [List.drop_zero] at h2
    refine ⟨?_, fun c hc => (h2 c hc).2⟩
    cases p with
    | nil => simp
    | cons c p => exact (h2 c (by simp)).1

/-! ### The first method of a name. -/
def meth (c : GClass) (name : List UInt8) : Option GMethod := c.fMethods.find? fun m => m.fName == name
def fstM (p : List GClass) (name : List UInt8) : List Nat → Option (List UInt8 × GMethod)
  | [] => none
  | i :: r => match p[i]? with
    | some c => (match meth c name with | some m => some (c.fName, m) | none => fstM p name r)
    | none => none
def fnd1 (o : Option (List UInt8 × GMethod)) (z : GFound_method) : GFound_method × Bool := match o with | some x => ({ fClass := x.1, fMethod := x.2 }, true) | none => (z, false)
theorem walk_L2 {p : List GClass} {c : GClass} {i : Nat} (hi : p[i]? = some c) (name : List UInt8) (z : GFound_method) (hl : c.fMethods.length ≤ 9223372036854775807) : ∀ (n k : Nat), n + k = c.fMethods.length + 1 → k ≤ c.fMethods.length →
    method_walk_w_L2 name p (i : Int) c n z false (k : Int) = some (match (c.fMethods.drop k).find? (fun m => m.fName == name) with | some m => .stop (({ fClass := c.fName, fMethod := m } : GFound_method), true) | none => .next (z, false))
  | 0, k, h, hk => by omega
  | n + 1, k, h, hk => by
    rw [method_walk_w_L2]
    by_cases hlt : k < c.fMethods.length
    · rw [if_pos (by simpa using hlt), idx_lt hlt, obs, List.drop_eq_getElem_cons hlt, List.find?_cons]
      unfold method_first_1_w
      by_cases hn : (c.fMethods[k].fName == name) = true
      · simp only [hn, if_true, idx_nat, hi, obs]
        rfl
      · simp only [Bool.not_eq_true] at hn
        simp only [hn]
        rw [if_neg (by simp), obs, if_neg (by simp), w64_succ hlt hl]
        exact walk_L2 hi name z hl n (k + 1) (by omega) (by omega)
    · rw [if_neg (by simpa using hlt), List.drop_eq_nil_of_le (by omega)]; rfl
theorem walk_L1 {p : List GClass} (hm : ∀ c ∈ p, c.fMethods.length ≤ 9223372036854775807) (name : List UInt8) (z : GFound_method) (l : List Nat) (hl : ∀ x ∈ l, x < p.length) (hll : l.length ≤ 1000000) : ∀ (n k : Nat), n + k = l.length + 1 → k ≤ l.length →
    method_walk_w_L1 p (l.map Int.ofNat) name p n z false (k : Int) = some (match fstM p name (l.drop k) with | some x => .stop (({ fClass := x.1, fMethod := x.2 } : GFound_method), true) | none => .next (z, false))
  | 0, k, h, hk => by omega
  | n + 1, k, h, hk => by
    rw [method_walk_w_L1]
    by_cases hlt : k < l.length
    · have hx := hl l[k] (List.getElem_mem hlt)
      have hc : p[l[k]]? = some p[l[k]] := List.getElem?_eq_getElem hx
      rw [if_pos (by simpa using hlt), idx_lt (by simpa using hlt), obs, List.getElem_map, show Int.ofNat l[k] = ((l[k] : Nat) : Int) from rfl, idx_nat, hc, obs, fuel_len, show (0 : Int) = ((0 : Nat) : Int) from rfl, walk_L2 hc name z (hm _ (List.getElem_mem hx)) _ 0 (by omega) (by omega), obs, List.drop_zero, List.drop_eq_getElem_cons hlt]
      simp only [fstM, hc, meth]
      cases hf : p[l[k]].fMethods.find? (fun m => m.fName == name) with
      | some m => rfl
      | none =>
        show method_walk_w_L1 p (l.map Int.ofNat) name p n z false (w_i64 ((k : Int) + 1)) = _
        rw [w64_succ hlt (by omega)]
        exact walk_L1 hm name z l hl hll n (k + 1) (by omega) (by omega)
    · rw [if_neg (by simpa using hlt), List.drop_eq_nil_of_le (by omega)]; rfl
def zfm : GFound_method := { fClass := [], fMethod := zGMethod }
theorem method_first_eq {p : List GClass} (hm : ∀ c ∈ p, c.fMethods.length ≤ 9223372036854775807) (name : List UInt8) (l : List Nat) (hl : ∀ x ∈ l, x < p.length) (hll : l.length ≤ 1000000) : method_first p (l.map Int.ofNat) name = some (fnd1 (fstM p name l) zfm) := by
  unfold method_first method_walk_w
  rw [fuel_len, show (0 : Int) = ((0 : Nat) : Int) from rfl, walk_L1 hm name _ l hl hll _ 0 (by simp) (by omega), obs, List.drop_zero]
  cases fstM p name l <;> rfl
theorem ch_lt (p : List GClass) (name : List UInt8) : ∀ x ∈ ch p name, x < p.length := by
  obtain ⟨_, _, _, _, _, _, k7, _⟩ := ch_facts p name
  exact fun x hx => (k7 x hx).1
theorem method_Find_eq {p : List GClass} (hp : p.length ≤ 1000000) (hm : ∀ c ∈ p, c.fMethods.length ≤ 9223372036854775807) (a name : List UInt8) : method_Find p a name = some (fnd1 (fstM p name (ch p a)) zfm) := by
  unfold method_Find
  have := ch_len p a
  rw [above_Chain_eq hp, obs, method_first_eq hm name _ (ch_lt p a) (by omega), obs]
theorem method_Over_eq {p : List GClass} (hp : p.length ≤ 1000000) (hm : ∀ c ∈ p, c.fMethods.length ≤ 9223372036854775807) (a name : List UInt8) : method_Over p a name = some (fnd1 (fstM p name ((ch p a).drop 1)) zfm) := by
  unfold method_Over
  have := ch_len p a
  have hc : cutL ((ch p a).map Int.ofNat) (if (((ch p a).map Int.ofNat).length : Int) < 1 then (((ch p a).map Int.ofNat).length : Int) else 1) ((ch p a).map Int.ofNat).length = some (((ch p a).drop 1).map Int.ofNat) := by
    cases hch : ch p a with
    | nil => rfl
    | cons x l =>
      unfold cutL
      rw [if_neg (show ¬ (((x :: l).map Int.ofNat).length : Int) < 1 by simp; omega), if_pos ⟨by omega, by simp; omega, by omega⟩]
      simp
      exact List.take_of_length_le (by simp)
  rw [above_Chain_eq hp, obs, hc, obs, method_first_eq hm name _ (fun x hx => ch_lt p a x (List.mem_of_mem_drop hx)) (by rw [List.length_drop]; omega), obs]

/-! ### The document's. -/
def fnd2 (o : Option (List UInt8 × GMethod)) : GFound_ref17 × Bool := match o with | some x => ({ fClass := x.1, fMethod := x.2 }, true) | none => ({ fClass := [], fMethod := zGMethod }, false)
theorem ref_own_L (c : GClass) (name : List UInt8) (hl : c.fMethods.length ≤ 9223372036854775807) : ∀ (n k : Nat), n + k = c.fMethods.length + 1 → k ≤ c.fMethods.length →
    ref17_own_L1 c name n (k : Int) = some (match (c.fMethods.drop k).find? (fun m => m.fName == name) with | some m => .stop (({ fClass := c.fName, fMethod := m } : GFound_ref17), true) | none => .next ())
  | 0, k, h, hk => by omega
  | n + 1, k, h, hk => by
    rw [ref17_own_L1]
    by_cases hlt : k < c.fMethods.length
    · rw [if_pos (by simpa using hlt), idx_lt hlt, obs, obs, List.drop_eq_getElem_cons hlt, List.find?_cons]
      by_cases hn : (c.fMethods[k].fName == name) = true
      · simp only [hn, if_true]
      · simp only [Bool.not_eq_true] at hn
        simp only [hn]
        rw [if_neg (by simp), w64_succ hlt hl]
        exact ref_own_L c name hl n (k + 1) (by omega) (by omega)
    · rw [if_neg (by simpa using hlt), List.drop_eq_nil_of_le (by omega)]; rfl
theorem ref_own_eq (c : GClass) (name : List UInt8) (hl : c.fMethods.length ≤ 9223372036854775807) : ref17_own c name = some (match meth c name with | some m => (({ fClass := c.fName, fMethod := m } : GFound_ref17), true) | none => (({ fClass := [], fMethod := zGMethod } : GFound_ref17), false)) := by
  unfold ref17_own meth
  rw [fuel_len, show (0 : Int) = ((0 : Nat) : Int) from rfl, ref_own_L c name hl _ 0 (by omega) (by omega), obs, List.drop_zero]
  cases c.fMethods.find? (fun m => m.fName == name) <;> rfl
theorem among_L {p : List GClass} (hm : ∀ c ∈ p, c.fMethods.length ≤ 9223372036854775807) (name : List UInt8) (l : List Nat) (hl : ∀ x ∈ l, x < p.length) (hll : l.length ≤ 1000000) : ∀ (n k : Nat), n + k = l.length + 1 → k ≤ l.length →
    ref17_among_L1 p (l.map Int.ofNat) name n (k : Int) = some (match fstM p name (l.drop k) with | some x => .stop (({ fClass := x.1, fMethod := x.2 } : GFound_ref17), true) | none => .next ())
  | 0, k, h, hk => by omega
  | n + 1, k, h, hk => by
    rw [ref17_among_L1]
    by_cases hlt : k < l.length
    · have hx := hl l[k] (List.getElem_mem hlt)
      have hc : p[l[k]]? = some p[l[k]] := List.getElem?_eq_getElem hx
      rw [if_pos (by simpa using hlt), idx_lt (by simpa using hlt), obs, List.getElem_map, show Int.ofNat l[k] = ((l[k] : Nat) : Int) from rfl, idx_nat, hc, obs, ref_own_eq _ _ (hm _ (List.getElem_mem hx)), obs, List.drop_eq_getElem_cons hlt]
      simp only [fstM, hc]
      cases hf : meth p[l[k]] name with
      | some m => rfl
      | none =>
        rw [if_neg (by simp), w64_succ hlt (by omega)]
        exact among_L hm name l hl hll n (k + 1) (by omega) (by omega)
    · rw [if_neg (by simpa using hlt), List.drop_eq_nil_of_le (by omega)]; rfl
theorem among_eq {p : List GClass} (hm : ∀ c ∈ p, c.fMethods.length ≤ 9223372036854775807) (name : List UInt8) (l : List Nat) (hl : ∀ x ∈ l, x < p.length) (hll : l.length ≤ 1000000) : ref17_among p (l.map Int.ofNat) name = some (fnd2 (fstM p name l)) := by
  unfold ref17_among
  rw [fuel_len, show (0 : Int) = ((0 : Nat) : Int) from rfl, among_L hm name l hl hll _ 0 (by simp) (by omega), obs, List.drop_zero]
  cases fstM p name l <;> rfl
theorem ref17_Find_eq {p : List GClass} (hp : p.length ≤ 1000000) (hm : ∀ c ∈ p, c.fMethods.length ≤ 9223372036854775807) (a name : List UInt8) : ref17_Find p a name = some (fnd2 (fstM p name (ch p a))) := by
  unfold ref17_Find
  have := ch_len p a
  rw [ref_Chain_eq hp, obs, among_eq hm name _ (ch_lt p a) (by omega), obs]
theorem ref17_Over_eq {p : List GClass} (hp : p.length ≤ 1000000) (hm : ∀ c ∈ p, c.fMethods.length ≤ 9223372036854775807) (a name : List UInt8) : ref17_Over p a name = some (fnd2 (fstM p name ((ch p a).drop 1))) := by
  unfold ref17_Over
  have := ch_len p a
  rw [ref_Chain_eq hp, obs]
  cases hch : ch p a with
  | nil => rfl
  | cons x l =>
    have hc : cutL ((x :: l).map Int.ofNat) 1 ((x :: l).map Int.ofNat).length = some (((x :: l).drop 1).map Int.ofNat) := by
      unfold cutL
      rw [if_pos ⟨by omega, by simp; omega, by omega⟩]
      simp
      exact List.take_of_length_le (by simp)
    rw [if_neg (by simp; omega), hc, obs, among_eq hm name _ (fun y hy => ch_lt p a y (by rw [hch]; exact List.mem_of_mem_drop hy)) (by rw [hch] at this; rw [List.length_drop]; omega), obs]

/-! ### A method is the same as itself. -/
theorem sameE_refl : ∀ (n : Nat) (e : GExpr), goodGExpr e → mGExpr e < n → ref06_Same n e e = some true
  | 0, e, _, h => by omega
  | n + 1, e, hg, h => by
    obtain ⟨h1, h2⟩ := goodE hg
    simp only [maxLen] at h1
    rw [mE_eq] at h
    have hL : ∀ (m k : Nat), m + k = e.fKids.length + 1 → k ≤ e.fKids.length → ref06_Same_L1 e e (ref06_Same n) m (k : Int) = some (.next ()) := by
      intro m
      induction m with
      | zero => intro k h hk; omega
      | succ m ih =>
        intro k h' hk
        rw [ref06_Same_L1]
        by_cases hlt : k < e.fKids.length
        · have hm := mE_mem (List.getElem_mem hlt)
          rw [if_pos (by simpa using hlt), idx_lt hlt, obs, obs, sameE_refl n _ (h2 _ (List.getElem_mem hlt)) (by omega), obs, if_neg (by simp), w64_succ hlt (by omega)]
          exact ih (k + 1) (by omega) (by omega)
        · rw [if_neg (by simpa using hlt)]
    rw [ref06_Same]
    simp only [bne_self_eq_false, Bool.false_eq_true, if_false, beq_self_eq_true, Bool.not_true, obs]
    rw [fuel_len, show (0 : Int) = ((0 : Nat) : Int) from rfl, hL _ 0 (by omega) (by omega)]
    rfl
theorem bGType_refl (a : GType) : bGType a a = true := by simp [bGType]
theorem bGVar_refl (a : GVar) : bGVar a a = true := by simp [bGVar]
theorem sameS_refl : ∀ (n : Nat), (∀ l : List GStmt, l.length ≤ 9223372036854775807 → (∀ e ∈ l, goodGStmt e) → 2 * mLGStmt l < n → ref08_List n l l = some true) ∧ (∀ e : GStmt, goodGStmt e → 2 * mGStmt e ≤ n → ref08_Same n e e = some true)
  | 0 => ⟨fun l _ _ h => by omega, fun e _ h => by rw [mS_eq] at h; omega⟩
  | n + 1 => by
    obtain ⟨ihL, ihS⟩ := sameS_refl n
    refine ⟨fun l hl hg h => ?_, fun e hg h => ?_⟩
    · have hL : ∀ (m k : Nat), m + k = l.length + 1 → k ≤ l.length → ref08_List_L1 l l (ref08_Same n) m (k : Int) = some (.next ()) := by
        intro m
        induction m with
        | zero => intro k h hk; omega
        | succ m ih =>
          intro k h' hk
          rw [ref08_List_L1]
          by_cases hlt : k < l.length
          · have hm := mS_mem (List.getElem_mem hlt)
            rw [if_pos (by simpa using hlt), idx_lt hlt, obs, obs, ihS _ (hg _ (List.getElem_mem hlt)) (by omega), obs, if_neg (by simp), w64_succ hlt (by omega)]
            exact ih (k + 1) (by omega) (by omega)
          · rw [if_neg (by simpa using hlt)]
      rw [ref08_List]
      simp only [bne_self_eq_false, Bool.false_eq_true, if_false]
      rw [fuel_len, show (0 : Int) = ((0 : Nat) : Int) from rfl, hL _ 0 (by omega) (by omega)]
      rfl
    · obtain ⟨g1, g2, g3, g4⟩ := goodS hg
      have l2 := g2.1; have l3 := g3.1; have l4 := g4.1
      simp only [maxLen] at l2 l3 l4
      rw [mS_eq] at h
      have hL : ∀ (m k : Nat), m + k = e.fArgs.length + 1 → k ≤ e.fArgs.length → ref08_Same_L1 e e m (k : Int) = some (.next ()) := by
        intro m
        induction m with
        | zero => intro k h hk; omega
        | succ m ih =>
          intro k h' hk
          rw [ref08_Same_L1]
          by_cases hlt : k < e.fArgs.length
          · rw [if_pos (by simpa using hlt), idx_lt hlt, obs, obs, sameE_refl _ _ (g2.2 _ (List.getElem_mem hlt)) (by omega), obs, if_neg (by simp), w64_succ hlt (by omega)]
            exact ih (k + 1) (by omega) (by omega)
          · rw [if_neg (by simpa using hlt)]
      rw [ref08_Same]
      simp only [bne_self_eq_false, Bool.false_eq_true, if_false, beq_self_eq_true, Bool.not_true, bGType_refl]
      rw [sameE_refl _ _ g1 (by omega)]
      simp only [obs, Bool.not_true, Bool.false_eq_true, if_false]
      rw [fuel_len, show (0 : Int) = ((0 : Nat) : Int) from rfl, hL _ 0 (by omega) (by omega), obs]
      show Option.bind (ref08_List n e.fBody e.fBody) _ = _
      rw [ihL _ (by omega) g3.2 (by omega), obs, if_pos rfl, ihL _ (by omega) g4.2 (by omega), obs]

theorem same_refl17 {c : List UInt8} {m : GMethod} (h1 : m.fParams.length ≤ 9223372036854775807) (h2 : m.fLocals.length ≤ 9223372036854775807) (h3 : m.fBody.length ≤ 9223372036854775807) (h4 : ∀ e ∈ m.fBody, goodGStmt e) : law17_same ({ fClass := c, fMethod := m } : GFound_method) ({ fClass := c, fMethod := m } : GFound_ref17) = some true := by
  have hL1 : ∀ (n k : Nat), n + k = m.fParams.length + 1 → k ≤ m.fParams.length → law17_same_L1 ({ fClass := c, fMethod := m } : GFound_method) ({ fClass := c, fMethod := m } : GFound_ref17) n (k : Int) = some (.next ()) := by
    intro n
    induction n with
    | zero => intro k h hk; omega
    | succ n ih =>
      intro k h' hk
      rw [law17_same_L1]
      by_cases hlt : k < m.fParams.length
      · rw [if_pos (by simpa using hlt), idx_lt hlt, obs, obs, bGVar_refl, if_neg (by simp), w64_succ hlt (by omega)]
        exact ih (k + 1) (by omega) (by omega)
      · rw [if_neg (by simpa using hlt)]
  have hL2 : ∀ (n k : Nat), n + k = m.fLocals.length + 1 → k ≤ m.fLocals.length → law17_same_L2 ({ fClass := c, fMethod := m } : GFound_method) ({ fClass := c, fMethod := m } : GFound_ref17) n (k : Int) = some (.next ()) := by
    intro n
    induction n with
    | zero => intro k h hk; omega
    | succ n ih =>
      intro k h' hk
      rw [law17_same_L2]
      by_cases hlt : k < m.fLocals.length
      · rw [if_pos (by simpa using hlt), idx_lt hlt, obs, obs, bGVar_refl, if_neg (by simp), w64_succ hlt (by omega)]
        exact ih (k + 1) (by omega) (by omega)
      · rw [if_neg (by simpa using hlt)]
  unfold law17_same
  simp only [bne_self_eq_false, Bool.false_eq_true, if_false, beq_self_eq_true, Bool.not_true, bGType_refl]
  rw [(sameS_refl _).1 m.fBody h3 h4 (by omega), obs]
  simp only [obs, Bool.not_true, Bool.false_eq_true, if_false]
  rw [fuel_len, fuel_len, show (0 : Int) = ((0 : Nat) : Int) from rfl, hL1 _ 0 (by omega) (by omega), obs]
  show Option.bind (law17_same_L2 _ _ _ _) _ = _
  rw [hL2 _ 0 (by omega) (by omega)]; rfl
theorem fstM_mem {p : List GClass} {name : List UInt8} : ∀ {l : List Nat} {x : List UInt8 × GMethod}, fstM p name l = some x → ∃ i ∈ l, ∃ c, p[i]? = some c ∧ c.fName = x.1 ∧ x.2 ∈ c.fMethods ∧ x.2.fName = name
  | [], x, h => by cases h
  | i :: r, x, h => by
    simp only [fstM] at h
    split at h
    · rename_i c hc
      split at h
      · rename_i m hm
        cases h
        unfold meth at hm
        exact ⟨i, by simp, c, hc, rfl, List.mem_of_find?_eq_some hm, by have := List.find?_some hm; simpa using this⟩
      · obtain ⟨j, hj, r⟩ := fstM_mem h
        exact ⟨j, by simp [hj], r⟩
    · cases h
theorem same_found {p : List GClass} (hg : ∀ c ∈ p, goodGClass c) (name : List UInt8) (l : List Nat) : law17_same (fnd1 (fstM p name l) zfm).1 (fnd2 (fstM p name l)).1 = some true := by
  cases h : fstM p name l with
  | none => exact same_refl17 (m := zGMethod) (by simp [zGMethod]) (by simp [zGMethod]) (by simp [zGMethod]) (by simp [zGMethod])
  | some x =>
    obtain ⟨i, _, c, hc, _, hm, _⟩ := fstM_mem h
    have hm := (hg c (List.mem_of_getElem? hc)).2.2.2.2.2.1.2 _ hm
    have l1 := hm.2.2.2.1.1; have l2 := hm.2.2.2.2.1.1; have l3 := hm.2.2.2.2.2.1.1
    simp only [maxLen] at l1 l2 l3
    exact same_refl17 (by omega) (by omega) (by omega) hm.2.2.2.2.2.1.2
theorem awake17_true : law17_awake = some true := by decide +kernel
theorem law17_MethodFind_true {a0 : List GClass} {a1 a2 : List UInt8} (h0 : listok (fun y => goodGClass y) a0) (_h1 : strok a1) (_h2 : strok a2) : law17_MethodFind a0 a1 a2 = some true := by
  have haw := awake17_true
  unfold law17_MethodFind
  obtain ⟨b1, hb1, hg1⟩ := heavy_eq h0
  rw [hb1, obs]
  cases b1 with
  | true => rw [if_pos rfl, haw]; rfl
  | false =>
    have hp := (hg1 rfl).1
    have hm : ∀ c ∈ a0, c.fMethods.length ≤ 9223372036854775807 := fun c hc => by
      have := (h0.2 c hc).2.2.2.2.2.1.1
      simp only [maxLen] at this; omega
    rw [if_neg (by simp), method_Find_eq (by omega) hm, obs, ref17_Find_eq (by omega) hm, obs, method_Over_eq (by omega) hm, obs, ref17_Over_eq (by omega) hm, obs, same_found h0.2, obs, if_pos rfl, same_found h0.2]
    have e : ∀ o : Option (List UInt8 × GMethod), ((fnd1 o zfm).2 == (fnd2 o).2) = true := fun o => by cases o <;> rfl
    rw [if_pos (e _), obs, if_pos rfl, if_pos (e _), haw]; rfl

end Go.Proofs.Ytahieoaggbmicaa
