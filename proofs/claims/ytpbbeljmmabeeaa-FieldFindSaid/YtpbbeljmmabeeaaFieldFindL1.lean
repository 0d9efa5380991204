/- A part of the proof that the law FieldFind gives true for every input. -/
import Derived.Test.YtpbbeljmmabeeaaAbsX
import Derived.Test.YtpbbeljmmabeeaaFieldFindT
import Derived.Test.YtpbbeljmmabeeaaFieldFindI
import Derived.Test.YtpbbeljmmabeeaaFieldFindD
/- The plain law. -/
namespace Go.Proofs.Ytpbbeljmmabeeaa
open Go.RowKit Go.Abs
/-! ### The first class of a name. -/
def fiN : List GClass → Nat → List UInt8 → Option Nat
  | [], _, _ => none
  | c :: t, k, name => if c.fName == name then some k else fiN t (k + 1) name
def fi (p : List GClass) (name : List UInt8) : Option Nat := fiN p 0 name
def fnd (p : List GClass) (name : List UInt8) : Int := match fi p name with | some i => (i : Int) | none => -1
theorem fiN_spec : ∀ (l : List GClass) (k : Nat) (name : List UInt8) (i : Nat), fiN l k name = some i → k ≤ i ∧ ∃ c, l[i - k]? = some c ∧ c.fName = name
  | [], k, name, i, h => by simp [fiN] at h
  | c :: t, k, name, i, h => by
    simp only [fiN] at h
    split at h
    · rename_i hc
      cases h
      exact ⟨Nat.le_refl _, c, by simp, by simpa using hc⟩
    · obtain ⟨h1, c', h2, h3⟩ := fiN_spec t (k + 1) name i h
      refine ⟨by omega, c', ?_, h3⟩
      rw [show i - k = (i - (k + 1)) + 1 by omega, List.getElem?_cons_succ]
      exact h2
theorem fiN_some : ∀ (l : List GClass) (k : Nat) (c : GClass), c ∈ l → ∃ i, fiN l k c.fName = some i
  | [], k, c, h => by simp at h
  | c' :: t, k, c, h => by
    simp only [fiN]
    split
    · exact ⟨k, rfl⟩
    · rename_i hc
      rcases List.mem_cons.1 h with rfl | h
      · simp at hc
      · exact fiN_some t (k + 1) c h
theorem fi_spec {p : List GClass} {name : List UInt8} {i : Nat} (h : fi p name = some i) : ∃ c, p[i]? = some c ∧ c.fName = name := by
  obtain ⟨_, c, h1, h2⟩ := fiN_spec p 0 name i h
  exact ⟨c, by simpa using h1, h2⟩
theorem fi_lt {p : List GClass} {name : List UInt8} {i : Nat} (h : fi p name = some i) : i < p.length := by
  obtain ⟨c, h1, _⟩ := fi_spec h
  exact (List.getElem?_eq_some_iff.1 h1).1
theorem fi_some {p : List GClass} {c : GClass} (h : c ∈ p) : ∃ i, fi p c.fName = some i := fiN_some p 0 c h
theorem fnd_some {p : List GClass} {name : List UInt8} {i : Nat} (h : fi p name = some i) : fnd p name = (i : Int) := by unfold fnd; rw [h]
theorem fnd_none {p : List GClass} {name : List UInt8} (h : fi p name = none) : fnd p name = -1 := by unfold fnd; rw [h]
/-- What a loop over a list that stops at the first hit comes to. -/
def hit (o : Option Nat) : Ctl Int Unit := match o with | some i => .stop (i : Int) | none => .next ()

theorem indexFunc_L {p : List GClass} (name : List UInt8) (hp : p.length < 9223372036854775806) : ∀ (n k : Nat), n + k = p.length + 1 → k ≤ p.length →
    slices_IndexFunc_api_Class_L1 p (fun (z1 : GClass) => table_Find_1 z1 name) n (k : Int) = some (hit (fiN (p.drop k) k name))
  | 0, k, h, hk => by omega
  | n + 1, k, h, hk => by
    simp only [slices_IndexFunc_api_Class_L1]
    by_cases hlt : k < p.length
    · rw [if_pos (by simpa using hlt), idx_lt hlt, List.drop_eq_getElem_cons hlt]
      simp only [obs, table_Find_1, fiN]
      by_cases hc : (p[k].fName == name) = true
      · rw [if_pos hc, if_pos hc]; rfl
      · rw [if_neg hc, if_neg hc, w64_succ hlt (by omega)]
        exact indexFunc_L name hp n (k + 1) (by omega) (by omega)
    · rw [if_neg (by simpa using hlt), List.drop_eq_nil_of_le (by omega)]
      rfl
theorem table_Find_eq {p : List GClass} (hp : p.length < 9223372036854775806) (name : List UInt8) : table_Find p name = some (fnd p name) := by
  unfold table_Find slices_IndexFunc_api_Class
  have h := indexFunc_L name hp (p.length + 1) 0 (by omega) (by omega)
  rw [show (((p.length : Int) : Int) - (0)).toNat + 1 = p.length + 1 by omega, show (0 : Int) = ((0 : Nat) : Int) from rfl, h]
  simp only [List.drop_zero, obs]
  unfold fnd fi hit
  cases fiN p 0 name <;> rfl

theorem ref13_Find_L {p : List GClass} (name : List UInt8) (hp : p.length < 9223372036854775806) : ∀ (n k : Nat), n + k = p.length + 1 → k ≤ p.length →
    ref13_Find_L1 p name n (k : Int) = some (hit (fiN (p.drop k) k name))
  | 0, k, h, hk => by omega
  | n + 1, k, h, hk => by
    simp only [ref13_Find_L1]
    by_cases hlt : k < p.length
    · rw [if_pos (by simpa using hlt), idx_lt hlt, List.drop_eq_getElem_cons hlt]
      simp only [obs, fiN]
      by_cases hc : (p[k].fName == name) = true
      · rw [if_pos hc, if_pos hc]; rfl
      · rw [if_neg hc, if_neg hc, w64_succ hlt (by omega)]
        exact ref13_Find_L name hp n (k + 1) (by omega) (by omega)
    · rw [if_neg (by simpa using hlt), List.drop_eq_nil_of_le (by omega)]
      rfl
theorem ref13_Find_eq {p : List GClass} (hp : p.length < 9223372036854775806) (name : List UInt8) : ref13_Find p name = some (fnd p name) := by
  unfold ref13_Find
  have h := ref13_Find_L name hp (p.length + 1) 0 (by omega) (by omega)
  rw [show (((p.length : Int) : Int) - (0)).toNat + 1 = p.length + 1 by omega, show (0 : Int) = ((0 : Nat) : Int) from rfl, h]
  simp only [List.drop_zero, obs]
  unfold fnd fi hit
  cases fiN p 0 name <;> rfl

/-! ### The walk up. -/
/-- The class that stands at `i`, its name's super. -/
def sup (p : List GClass) (i : Nat) : List UInt8 := match p[i]? with | some c => c.fSuper | none => []
def upN (p : List GClass) : Nat → List UInt8 → List Nat
  | 0, _ => []
  | n + 1, name => match fi p name with
    | none => []
    | some i => if sup p i == [] then [i] else i :: upN p n (sup p i)
theorem itR_up_n_eq {p : List GClass} (hp : p.length < 9223372036854775806) : ∀ (n : Nat) (name : List UInt8), itR_up_n p n name = some ((upN p n name).map Int.ofNat)
  | 0, name => rfl
  | n + 1, name => by
    simp only [itR_up_n, upN, table_Find_eq hp, obs]
    cases hf : fi p name with
    | none => rw [fnd_none hf]; simp
    | some i =>
      rw [fnd_some hf, if_neg (by omega)]
      obtain ⟨c, hc, _⟩ := fi_spec hf
      have hidx : idx p (i : Int) = some c := by rw [idx_nat]; exact hc
      rw [hidx]
      have hs : sup p i = c.fSuper := by unfold sup; rw [hc]
      simp only [obs, hs]
      by_cases he : (c.fSuper == []) = true
      · rw [if_pos he, if_pos he]; rfl
      · rw [if_neg he, if_neg he, itR_up_n_eq hp n c.fSuper]; rfl
theorem itR_up_eq {p : List GClass} (hp : p.length < 9223372036854775806) (name : List UInt8) : itR_up p name = some ((upN p (p.length + 1) name).map Int.ofNat) := by
  unfold itR_up; rw [if_pos hp, itR_up_n_eq hp]

/-- The chain: up to the first one that comes twice. -/
def chN (p : List GClass) : Nat → List Nat → List UInt8 → List Nat
  | 0, out, _ => out
  | n + 1, out, name => match fi p name with
    | none => out
    | some i => if i ∈ out then out else if sup p i == [] then out ++ [i] else chN p n (out ++ [i]) (sup p i)
def ch (p : List GClass) (name : List UInt8) : List Nat := chN p (p.length + 1) [] name

theorem nodup_len : ∀ (L : Nat) (l : List Nat), l.Nodup → (∀ x ∈ l, x < L) → l.length ≤ L
  | 0, l, _, h => by
    cases l with
    | nil => exact Nat.le_refl _
    | cons x l => have := h x (by simp); omega
  | L + 1, l, hn, h => by
    have h1 := nodup_len L (l.erase L) (hn.erase L) (fun x hx => by
      have := (hn.mem_erase_iff.1 hx)
      have := h x this.2
      omega)
    by_cases hm : L ∈ l
    · have := List.length_erase_of_mem hm; omega
    · rw [List.erase_of_not_mem hm] at h1; omega

/-- What holds on the way up. -/
structure Way (p : List GClass) (out : List Nat) (name : List UInt8) : Prop where
  nd : out.Nodup
  lt : ∀ x ∈ out, x < p.length
  nx : ∀ x ∈ out, sup p x ≠ [] ∧ (sup p x = name ∨ ∃ j, fi p (sup p x) = some j ∧ j ∈ out)
  own : ∀ x ∈ out, ∃ nm, fi p nm = some x

theorem Way.nil (p : List GClass) (name : List UInt8) : Way p [] name := ⟨List.nodup_nil, by simp, by simp, by simp⟩
theorem Way.snoc {p : List GClass} {out : List Nat} {name : List UInt8} {i : Nat} (h : Way p out name) (hf : fi p name = some i) (hi : i ∉ out) (hs : sup p i ≠ []) : Way p (out ++ [i]) (sup p i) := by
  refine ⟨?_, fun x hx => ?_, fun x hx => ?_, fun x hx => ?_⟩
  · refine List.nodup_append.2 ⟨h.nd, by simp, fun a ha b hb => ?_⟩
    simp at hb; subst hb; rintro rfl; exact hi ha
  · rcases List.mem_append.1 hx with hx | hx
    · exact h.lt x hx
    · simp at hx; subst hx; exact fi_lt hf
  · rcases List.mem_append.1 hx with hx | hx
    · obtain ⟨h1, h2⟩ := h.nx x hx
      refine ⟨h1, .inr ?_⟩
      rcases h2 with h2 | ⟨j, h2, h3⟩
      · exact ⟨i, by rw [h2]; exact hf, by simp⟩
      · exact ⟨j, h2, by simp [h3]⟩
    · simp at hx; subst hx; exact ⟨hs, .inl rfl⟩
  · rcases List.mem_append.1 hx with hx | hx
    · exact h.own x hx
    · simp at hx; subst hx; exact ⟨name, hf⟩

/-- A set of classes that one does not leave upwards. -/
def Shut (p : List GClass) (S : List Nat) : Prop := ∀ x ∈ S, sup p x ≠ [] → ∀ j, fi p (sup p x) = some j → j ∈ S
theorem upN_shut {p : List GClass} {S : List Nat} (h : Shut p S) : ∀ (n : Nat) (name : List UInt8), (∀ j, fi p name = some j → j ∈ S) → ∀ x ∈ upN p n name, x ∈ S
  | 0, name, _, x, hx => by simp [upN] at hx
  | n + 1, name, hs, x, hx => by
    simp only [upN] at hx
    cases hf : fi p name with
    | none => rw [hf] at hx; simp at hx
    | some i =>
      rw [hf] at hx
      have hi := hs i hf
      simp only at hx
      split at hx
      · simp at hx; subst hx; exact hi
      · rename_i he
        rcases List.mem_cons.1 hx with rfl | hx
        · exact hi
        · exact upN_shut h n _ (fun j hj => h i hi (by simpa using he) j hj) x hx
/-- .. where each has one above it: the walk never ends. -/
theorem upN_round {p : List GClass} {S : List Nat} (h : ∀ x ∈ S, sup p x ≠ [] ∧ ∃ j, fi p (sup p x) = some j ∧ j ∈ S) : ∀ (n : Nat) (name : List UInt8) (i : Nat), fi p name = some i → i ∈ S → (upN p n name).length = n
  | 0, name, i, _, _ => rfl
  | n + 1, name, i, hf, hi => by
    obtain ⟨h1, j, h2, h3⟩ := h i hi
    simp only [upN, hf]
    rw [if_neg (by simpa using h1)]
    simp [upN_round h n _ j h2 h3]

/-- Did the chain end because one came twice? -/
def back (p : List GClass) (l : List Nat) : Bool := match l.getLast? with
  | none => false
  | some i => !(sup p i == []) && (match fi p (sup p i) with | some j => decide (j ∈ l) | none => false)

/-- **The walk and the chain.** -/
theorem upN_chN {p : List GClass} : ∀ (n : Nat) (out : List Nat) (name : List UInt8), n + out.length = p.length + 1 → Way p out name → (out = [] ∨ ∃ x, out.getLast? = some x ∧ sup p x = name) →
    ∃ R, out ++ upN p n name = chN p n out name ++ R ∧ (∀ x ∈ R, x ∈ chN p n out name) ∧ (∀ x ∈ out, x ∈ chN p n out name) ∧ (∀ j, fi p name = some j → j ∈ chN p n out name) ∧ Shut p (chN p n out name) ∧ (chN p n out name).Nodup ∧ (∀ x ∈ chN p n out name, x < p.length ∧ ∃ nm, fi p nm = some x) ∧
      (back p (chN p n out name) = decide ((upN p n name).length = n))
  | 0, out, name, hn, hw, hl => by
    exfalso
    have := nodup_len p.length out hw.nd hw.lt
    omega
  | n + 1, out, name, hn, hw, hl => by
    have hlen := nodup_len p.length out hw.nd hw.lt
    cases hf : fi p name with
    | none =>
      simp only [upN, chN, hf]
      refine ⟨[], by simp, by simp, fun x hx => hx, by simp, fun x hx hne j hj => ?_, hw.nd, fun x hx => ⟨hw.lt x hx, hw.own x hx⟩, ?_⟩
      · rcases (hw.nx x hx).2 with h1 | ⟨j', h1, h2⟩
        · rw [h1, hf] at hj; cases hj
        · rw [h1] at hj; cases hj; exact h2
      · have : back p out = false := by
          unfold back
          rcases hl with rfl | ⟨x, h1, h2⟩
          · rfl
          · rw [h1]; simp only [h2, hf, Bool.and_false]
        rw [this]; simp
    | some i =>
      simp only [upN, chN, hf]
      by_cases hi : i ∈ out
      · rw [if_pos hi]
        have hround : ∀ x ∈ out, sup p x ≠ [] ∧ ∃ j, fi p (sup p x) = some j ∧ j ∈ out := by
          intro x hx
          obtain ⟨h1, h2⟩ := hw.nx x hx
          refine ⟨h1, ?_⟩
          rcases h2 with h2 | h2
          · exact ⟨i, by rw [h2]; exact hf, hi⟩
          · exact h2
        have hshut : Shut p out := fun x hx _ j hj => by
          obtain ⟨_, j', h1, h2⟩ := hround x hx
          rw [h1] at hj; cases hj; exact h2
        have hsub := upN_shut hshut (n + 1) name (fun j hj => by rw [hf] at hj; cases hj; exact hi)
        have hfull := upN_round hround (n + 1) name i hf hi
        simp only [upN, hf] at hsub hfull
        refine ⟨_, rfl, hsub, fun x hx => hx, fun j hj => by cases hj; exact hi, hshut, hw.nd, fun x hx => ⟨hw.lt x hx, hw.own x hx⟩, ?_⟩
        rw [hfull]
        have : back p out = true := by
          unfold back
          rcases hl with rfl | ⟨x, h1, h2⟩
          · simp at hi
          · have hx : x ∈ out := List.mem_of_getLast? h1
            rw [h1]
            simp only [h2, hf, hi, decide_true, Bool.and_true]
            have := (hw.nx x hx).1
            rw [h2] at this
            simpa using this
        rw [this]; simp
      · rw [if_neg hi]
        by_cases hs : (sup p i == []) = true
        · rw [if_pos hs, if_pos hs]
          have hs' : sup p i = [] := by simpa using hs
          have hw2 : (out ++ [i]).Nodup := List.nodup_append.2 ⟨hw.nd, by simp, fun a ha b hb => by
            simp at hb; subst hb; rintro rfl; exact hi ha⟩
          have hlt2 : ∀ x ∈ out ++ [i], x < p.length := fun x hx => by
            rcases List.mem_append.1 hx with hx | hx
            · exact hw.lt x hx
            · simp at hx; subst hx; exact fi_lt hf
          have hlen2 := nodup_len p.length _ hw2 hlt2
          refine ⟨[], by simp, by simp, fun x hx => by simp [hx], fun j hj => by cases hj; simp, fun x hx hne j hj => ?_, hw2, fun x hx => ⟨hlt2 x hx, ?_⟩, ?_⟩
          · rcases List.mem_append.1 hx with hx | hx
            · rcases (hw.nx x hx).2 with h1 | ⟨j', h1, h2⟩
              · rw [h1, hf] at hj; cases hj; simp
              · rw [h1] at hj; cases hj; simp [h2]
            · simp at hx; subst hx; exact absurd hs' hne
          · rcases List.mem_append.1 hx with hx | hx
            · exact hw.own x hx
            · simp at hx; subst hx; exact ⟨name, hf⟩
          · have : back p (out ++ [i]) = false := by
              unfold back; simp [hs']
            rw [this]
            simp at hlen2
            simp; omega
        · rw [if_neg hs, if_neg hs]
          have hs' : sup p i ≠ [] := by simpa using hs
          obtain ⟨R, k1, k2, k3, k4, k5, k6, k7, k8⟩ := upN_chN n (out ++ [i]) (sup p i) (by simp; omega) (hw.snoc hf hi hs') (.inr ⟨i, by simp, rfl⟩)
          refine ⟨R, by rw [← k1]; simp, k2, fun x hx => k3 x (by simp [hx]), fun j hj => by cases hj; exact k3 i (by simp), k5, k6, k7, ?_⟩
          rw [k8]; simp
/-- The facts about a name's chain. -/
theorem ch_facts (p : List GClass) (name : List UInt8) : ∃ R, upN p (p.length + 1) name = ch p name ++ R ∧ (∀ x ∈ R, x ∈ ch p name) ∧ (∀ j, fi p name = some j → j ∈ ch p name) ∧ Shut p (ch p name) ∧ (ch p name).Nodup ∧ (∀ x ∈ ch p name, x < p.length ∧ ∃ nm, fi p nm = some x) ∧
    (back p (ch p name) = decide ((upN p (p.length + 1) name).length = p.length + 1)) := by
  obtain ⟨R, k1, k2, k3, k4, k5, k6, k7, k8⟩ := upN_chN (p.length + 1) [] name (by simp) (Way.nil p name) (.inl rfl)
  exact ⟨R, by unfold ch; simpa using k1, k2, k4, k5, k6, k7, k8⟩
theorem mem_up {p : List GClass} {name : List UInt8} {x : Nat} : x ∈ upN p (p.length + 1) name ↔ x ∈ ch p name := by
  obtain ⟨R, k1, k2, _⟩ := ch_facts p name
  rw [k1]
  constructor
  · intro h
    rcases List.mem_append.1 h with h | h
    · exact h
    · exact k2 x h
  · intro h; simp [h]

/-! ### Chains, by the program and by the document. -/
theorem idxI_L {l : List Int} (a : Int) (hp : l.length < 9223372036854775806) : ∀ (n k : Nat), n + k = l.length + 1 → k ≤ l.length →
    ∃ r, slices_Index_int_L1 l a n (k : Int) = some r ∧ ((∃ v : Int, r = .stop v ∧ 0 ≤ v ∧ a ∈ l.drop k) ∨ (r = .next () ∧ a ∉ l.drop k))
  | 0, k, h, hk => by omega
  | n + 1, k, h, hk => by
    simp only [slices_Index_int_L1]
    by_cases hlt : k < l.length
    · rw [if_pos (by simpa using hlt), idx_lt hlt, List.drop_eq_getElem_cons hlt]
      simp only [obs]
      by_cases hc : (a == l[k]) = true
      · rw [if_pos hc]
        have hc' : a = l[k] := by simpa using hc
        exact ⟨_, rfl, .inl ⟨_, rfl, by omega, by rw [hc']; exact List.mem_cons_self⟩⟩
      · rw [if_neg hc, w64_succ hlt (by omega)]
        obtain ⟨r, h1, h2⟩ := idxI_L a hp n (k + 1) (by omega) (by omega)
        refine ⟨r, h1, ?_⟩
        have hne : a ≠ l[k] := by simpa using hc
        rcases h2 with ⟨v, h3, h4, h5⟩ | ⟨h3, h4⟩
        · exact .inl ⟨v, h3, h4, List.mem_cons_of_mem _ h5⟩
        · exact .inr ⟨h3, fun hm => (List.mem_cons.1 hm).elim hne h4⟩
    · rw [if_neg (by simpa using hlt), List.drop_eq_nil_of_le (by omega)]
      exact ⟨_, rfl, .inr ⟨rfl, by simp⟩⟩
theorem contains_eq {l : List Int} (hp : l.length < 9223372036854775806) (a : Int) : slices_Contains_int l a = some (decide (a ∈ l)) := by
  unfold slices_Contains_int slices_Index_int
  obtain ⟨r, h1, h2⟩ := idxI_L a hp (l.length + 1) 0 (by omega) (by omega)
  rw [show (((l.length : Int) : Int) - (0)).toNat + 1 = l.length + 1 by omega, show (0 : Int) = ((0 : Nat) : Int) from rfl, h1]
  rcases h2 with ⟨v, rfl, h3, h4⟩ | ⟨rfl, h4⟩
  · simp only [obs, Ctl.elim]
    simp only [List.drop_zero] at h4
    simp [h4, h3]
  · simp only [obs, Ctl.elim]
    simp only [List.drop_zero] at h4
    simp [h4]
theorem mem_cast {i : Nat} {l : List Nat} : ((i : Int) ∈ l.map Int.ofNat) ↔ i ∈ l := by
  rw [List.mem_map]
  constructor
  · rintro ⟨j, h1, h2⟩
    have : j = i := Int.ofNat.inj h2
    exact this ▸ h1
  · intro h; exact ⟨i, h, rfl⟩

theorem chain_runs {p : List GClass} (hp : p.length ≤ 1000000) : ∀ (n : Nat) (out : List Nat) (name : List UInt8), n + out.length = p.length + 1 →
    ∃ r, runs above_Chain_B1 ((upN p n name).map Int.ofNat) (out.map Int.ofNat) = some r ∧ Ctl.elim r (fun x => x) (fun x => x) = (chN p n out name).map Int.ofNat
  | 0, out, name, _ => ⟨_, rfl, rfl⟩
  | n + 1, out, name, hn => by
    have hout : (out.map Int.ofNat).length < 9223372036854775806 := by simp; omega
    have hroom : room (((out.map Int.ofNat).length : Int) + (([(0 : Int)].length : Nat) : Int)) 8 = some () := room_ok (by simp; omega)
    simp only [upN, chN]
    cases hf : fi p name with
    | none => exact ⟨_, rfl, rfl⟩
    | some i =>
      simp only
      have hstep : ∀ rest, runs above_Chain_B1 (((i : Nat) :: rest).map Int.ofNat) (out.map Int.ofNat) = if i ∈ out then some (.stop (out.map Int.ofNat)) else runs above_Chain_B1 (rest.map Int.ofNat) ((out ++ [i]).map Int.ofNat) := by
        intro rest
        simp only [List.map_cons, runs, above_Chain_B1]
        rw [contains_eq hout]
        simp only [obs]
        by_cases hi : i ∈ out
        · have : Int.ofNat i ∈ out.map Int.ofNat := mem_cast.2 hi
          rw [if_pos hi, if_pos (by simpa using this)]
          rfl
        · have hni : ¬ Int.ofNat i ∈ out.map Int.ofNat := fun h => hi (mem_cast.1 h)
          rw [if_neg hi, if_neg (by simpa using hni)]
          rw [show (([Int.ofNat i].length : Nat) : Int) = (([(0 : Int)].length : Nat) : Int) from rfl, hroom]
          simp [obs, Ctl.elim]
      by_cases hi : i ∈ out
      · rw [if_pos hi]
        split
        · rw [hstep, if_pos hi]; exact ⟨_, rfl, rfl⟩
        · rw [hstep, if_pos hi]; exact ⟨_, rfl, rfl⟩
      · rw [if_neg hi]
        by_cases hs : (sup p i == []) = true
        · rw [if_pos hs, if_pos hs, hstep, if_neg hi]
          exact ⟨_, rfl, rfl⟩
        · rw [if_neg hs, if_neg hs, hstep, if_neg hi]
          exact chain_runs hp n (out ++ [i]) (sup p i) (by simp; omega)
theorem above_Chain_eq {p : List GClass} (hp : p.length ≤ 1000000) (name : List UInt8) : above_Chain p name = some ((ch p name).map Int.ofNat) := by
  unfold above_Chain above_up
  simp only [obs]
  rw [itR_up_eq (by omega)]
  simp only [obs]
  obtain ⟨r, h1, h2⟩ := chain_runs hp (p.length + 1) [] name (by simp)
  rw [show ([] : List Int) = ([] : List Nat).map Int.ofNat from rfl, h1]
  unfold ch
  rw [← h2]
  cases r <;> rfl
theorem ch_len (p : List GClass) (name : List UInt8) : (ch p name).length ≤ p.length := by
  obtain ⟨_, _, _, _, _, k6, k7, _⟩ := ch_facts p name
  exact nodup_len _ _ k6 (fun x hx => (k7 x hx).1)
theorem ch_ne {p : List GClass} {name : List UInt8} {i : Nat} (h : fi p name = some i) : ch p name ≠ [] := by
  obtain ⟨_, _, _, k4, _⟩ := ch_facts p name
  intro e
  have := k4 i h
  rw [e] at this; simp at this

theorem has_L {l : List Int} (a : Int) (hp : l.length < 9223372036854775806) : ∀ (n k : Nat), n + k = l.length + 1 → k ≤ l.length →
    ref14_has_L1 l a n (k : Int) = some (if a ∈ l.drop k then .stop true else .next ())
  | 0, k, h, hk => by omega
  | n + 1, k, h, hk => by
    simp only [ref14_has_L1]
    by_cases hlt : k < l.length
    · rw [if_pos (by simpa using hlt), idx_lt hlt, List.drop_eq_getElem_cons hlt]
      simp only [obs]
      by_cases hc : (l[k] == a) = true
      · rw [if_pos hc]
        simp at hc
        rw [if_pos (by rw [← hc]; exact List.mem_cons_self)]
      · rw [if_neg hc, w64_succ hlt (by omega), has_L a hp n (k + 1) (by omega) (by omega)]
        have hne : a ≠ l[k] := fun e => hc (by simp [e])
        have e : (a ∈ l[k] :: l.drop (k + 1)) ↔ a ∈ l.drop (k + 1) := ⟨fun hm => (List.mem_cons.1 hm).resolve_left hne, List.mem_cons_of_mem _⟩
        simp only [e]
    · rw [if_neg (by simpa using hlt), List.drop_eq_nil_of_le (by omega)]
      simp
theorem has_eq {l : List Int} (hp : l.length < 9223372036854775806) (a : Int) : ref14_has l a = some (decide (a ∈ l)) := by
  unfold ref14_has
  have h := has_L a hp (l.length + 1) 0 (by omega) (by omega)
  rw [show (((l.length : Int) : Int) - (0)).toNat + 1 = l.length + 1 by omega, show (0 : Int) = ((0 : Nat) : Int) from rfl, h]
  simp only [obs, List.drop_zero]
  by_cases hm : a ∈ l
  · simp [hm, Ctl.elim]
  · simp [hm, Ctl.elim]

theorem refChain_L {p : List GClass} (hp : p.length ≤ 1000000) : ∀ (n : Nat) (out : List Nat) (name : List UInt8), n + out.length = p.length + 1 → Way p out name →
    ∃ r, ref14_Chain_L1 p (n + 1) (out.map Int.ofNat) (fnd p name) = some r ∧ Ctl.elim r (fun x => x) (fun x => x) = (chN p n out name).map Int.ofNat
  | 0, out, name, hn, hw => by
    exfalso
    have := nodup_len p.length out hw.nd hw.lt
    omega
  | n + 1, out, name, hn, hw => by
    have hout : (out.map Int.ofNat).length < 9223372036854775806 := by simp; omega
    have hroom : ∀ z : Int, room (((out.map Int.ofNat).length : Int) + (([z].length : Nat) : Int)) 8 = some () := fun z => room_ok (by simp; omega)
    simp only [ref14_Chain_L1]
    cases hf : fi p name with
    | none =>
      rw [fnd_none hf]
      refine ⟨.next (out.map Int.ofNat), rfl, ?_⟩
      simp [chN, hf, Ctl.elim]
    | some i =>
      rw [fnd_some hf, has_eq hout]
      obtain ⟨c, hc, _⟩ := fi_spec hf
      have hidx : idx p (i : Int) = some c := by rw [idx_nat]; exact hc
      have hsup : sup p i = c.fSuper := by unfold sup; rw [hc]
      have hd : decide ((i : Int) ≥ 0) = true := by simp
      rw [if_pos hd]
      simp only [chN, hf, obs, hroom, hidx]
      by_cases hi : i ∈ out
      · rw [if_neg (by simpa using mem_cast.2 hi), if_pos hi]
        exact ⟨_, rfl, rfl⟩
      · have hni : ¬ (i : Int) ∈ out.map Int.ofNat := fun h => hi (mem_cast.1 h)
        rw [if_pos (by simpa using hni), if_neg hi]
        have hcat : out.map Int.ofNat ++ [(i : Int)] = (out ++ [i]).map Int.ofNat := by simp
        rw [hcat, hsup]
        by_cases hs : (c.fSuper == []) = true
        · rw [if_pos hs, if_pos hs]
          exact ⟨_, rfl, rfl⟩
        · rw [if_neg hs, if_neg hs, ref13_Find_eq (by omega)]
          simp only [obs]
          have hs' : sup p i ≠ [] := by rw [hsup]; simpa using hs
          have := refChain_L hp n (out ++ [i]) (sup p i) (by simp; omega) (hw.snoc hf hi hs')
          rw [hsup] at this
          exact this
theorem ref_Chain_eq {p : List GClass} (hp : p.length ≤ 1000000) (name : List UInt8) : ref14_Chain p name = some ((ch p name).map Int.ofNat) := by
  unfold ref14_Chain
  rw [ref13_Find_eq (by omega)]
  obtain ⟨r, h1, h2⟩ := refChain_L hp (p.length + 1) [] name (by simp) (Way.nil p name)
  simp only [obs]
  rw [show p.length + 2 = p.length + 1 + 1 from rfl, show ([] : List Int) = ([] : List Nat).map Int.ofNat from rfl, h1]
  unfold ch
  rw [← h2]
  cases r <;> rfl

/-! ### All fields. -/
def slotsOf (c : GClass) : List GSlot_field := c.fFields.map fun v => { fClass := c.fName, fVar := v }
def slotsAt (p : List GClass) (k : Nat) : List GSlot_field := match p[k]? with | some c => slotsOf c | none => []
/-- The fields of the classes of a chain, from the uppermost one on. -/
def allS (p : List GClass) (l : List Nat) : List GSlot_field := (l.reverse.map (slotsAt p)).flatten
theorem allS_cons (p : List GClass) (k : Nat) (l : List Nat) : allS p (k :: l) = allS p l ++ slotsAt p k := by simp [allS]
theorem allS_snoc (p : List GClass) (k : Nat) (l : List Nat) : allS p (l ++ [k]) = slotsAt p k ++ allS p l := by simp [allS]
def fieldsOk (p : List GClass) (N : Nat) : Prop := ∀ c ∈ p, c.fFields.length ≤ N
theorem slotsAt_len {p : List GClass} {N : Nat} (h : fieldsOk p N) (k : Nat) : (slotsAt p k).length ≤ N := by
  unfold slotsAt
  cases hk : p[k]? with
  | none => simp
  | some c => simpa [slotsOf] using h c (List.mem_of_getElem? hk)
theorem allS_len {p : List GClass} {N : Nat} (h : fieldsOk p N) : ∀ l : List Nat, (allS p l).length ≤ l.length * N
  | [] => by simp [allS]
  | k :: l => by
    rw [allS_cons, List.length_append, List.length_cons, Nat.add_mul, Nat.one_mul]
    have := slotsAt_len h k
    have := allS_len h l
    omega
theorem field_All_L2_eq {p : List GClass} {k : Nat} {c : GClass} (hk : p[k]? = some c) (hN : c.fFields.length ≤ 1000000) : ∀ (n j : Nat) (out : List GSlot_field), n + j = c.fFields.length + 1 → j ≤ c.fFields.length → out.length + (c.fFields.length - j) ≤ 1000000000 →
    field_All_L2 p (k : Int) c n out (j : Int) = some (out ++ (c.fFields.drop j).map fun v => { fClass := c.fName, fVar := v })
  | 0, j, out, h, hj, _ => by omega
  | n + 1, j, out, h, hj, ho => by
    simp only [field_All_L2]
    by_cases hlt : j < c.fFields.length
    · have hidx : idx p (k : Int) = some c := by rw [idx_nat]; exact hk
      have hroom : ∀ z : GSlot_field, room ((out.length : Int) + (([z].length : Nat) : Int)) 136 = some () := fun z => room_ok (by simp; omega)
      rw [if_pos (by simpa using hlt), idx_lt hlt]
      simp only [obs, hidx, hroom]
      rw [w64_succ hlt (by omega), field_All_L2_eq hk hN n (j + 1) _ (by omega) (by omega) (by simp; omega), List.drop_eq_getElem_cons hlt]
      simp only [List.map_cons, List.append_assoc, List.singleton_append]
    · rw [if_neg (by simpa using hlt), List.drop_eq_nil_of_le (by omega)]
      simp
theorem field_runs {p : List GClass} {N : Nat} (hN : N ≤ 1000) (hf : fieldsOk p N) (l : List Nat) (hl : ∀ x ∈ l, x < p.length) (hll : l.length ≤ 1000000) : ∀ (n : Nat) (out : List GSlot_field), n ≤ l.length → out.length + n * N ≤ 1000000000 →
    runs (field_All_B1 p) (itR_back_n (l.map Int.ofNat) n) out = some (.next (out ++ allS p (l.take n)))
  | 0, out, _, _ => by simp [itR_back_n, runs, allS]
  | n + 1, out, h, ho => by
    have hn : (l.map Int.ofNat)[n]? = some (Int.ofNat l[n]) := by rw [List.getElem?_map, List.getElem?_eq_getElem (by omega)]; rfl
    have hx := hl l[n] (List.getElem_mem (by omega))
    have hk : p[l[n]]? = some p[l[n]] := List.getElem?_eq_getElem hx
    have hidx : idx p (Int.ofNat l[n]) = some p[l[n]] := idx_lt hx
    have hc := hf p[l[n]] (List.getElem_mem hx)
    rw [Nat.add_mul, Nat.one_mul] at ho
    have hL := field_All_L2_eq hk (by omega) (p[l[n]].fFields.length + 1) 0 out (by omega) (by omega) (by omega)
    simp only [itR_back_n, hn, runs, field_All_B1, hidx, obs]
    rw [show (((p[l[n]].fFields.length : Int) : Int) - (0)).toNat + 1 = p[l[n]].fFields.length + 1 by omega, show (Int.ofNat l[n] : Int) = ((l[n] : Nat) : Int) from rfl, show (0 : Int) = ((0 : Nat) : Int) from rfl, hL]
    simp only [obs, Ctl.elim, List.drop_zero]
    have hlen : (p[l[n]].fFields.map fun v => ({ fClass := p[l[n]].fName, fVar := v } : GSlot_field)).length ≤ N := by simpa using hc
    rw [field_runs hN hf l hl hll n _ (by omega) (by rw [List.length_append]; omega)]
    congr 2
    have ht : l.take (n + 1) = l.take n ++ [l[n]] := by rw [List.take_add_one, List.getElem?_eq_getElem (by omega)]; rfl
    rw [ht]
    have : slotsAt p l[n] = p[l[n]].fFields.map fun v => ({ fClass := p[l[n]].fName, fVar := v } : GSlot_field) := by unfold slotsAt; rw [hk]; rfl
    rw [allS_snoc, this, List.append_assoc]
/-- The fields of a class, by the program. -/
def flds (p : List GClass) (name : List UInt8) : List GSlot_field := allS p (ch p name)
theorem field_All_eq {p : List GClass} {N : Nat} (hp : p.length ≤ 1000) (hN : N ≤ 1000) (hf : fieldsOk p N) (name : List UInt8) : field_All p name = some (flds p name) := by
  unfold field_All
  rw [above_Chain_eq (by omega)]
  obtain ⟨_, _, _, _, _, _, k7, _⟩ := ch_facts p name
  have hcl := ch_len p name
  have hNm : (ch p name).length * N ≤ 1000 * 1000 := Nat.mul_le_mul (by omega) hN
  simp only [obs, slices_Backward_int, itR_back, List.length_map]
  rw [if_pos (by omega)]
  simp only [obs]
  rw [field_runs hN hf (ch p name) (fun x hx => (k7 x hx).1) (by omega) (ch p name).length [] (Nat.le_refl _) (by simp; omega)]
  simp [obs, Ctl.elim, flds]
theorem flds_len {p : List GClass} {N : Nat} (hp : p.length ≤ 1000) (hN : N ≤ 1000) (hf : fieldsOk p N) (name : List UInt8) : (flds p name).length ≤ 1000000 := by
  have h1 := allS_len hf (ch p name)
  have hcl := ch_len p name
  have : (ch p name).length * N ≤ 1000 * 1000 := Nat.mul_le_mul (by omega) hN
  unfold flds; omega

def asRef (s : GSlot_field) : GSlot_ref16 := { fClass := s.fClass, fVar := s.fVar }
theorem ref_All_L2_eq {c : GClass} (hN : c.fFields.length ≤ 1000000) : ∀ (n j : Nat) (out : List GSlot_ref16), n + j = c.fFields.length + 1 → j ≤ c.fFields.length → out.length + (c.fFields.length - j) ≤ 1000000000 →
    ref16_All_L2 c n out (j : Int) = some (out ++ (c.fFields.drop j).map fun v => { fClass := c.fName, fVar := v })
  | 0, j, out, h, hj, _ => by omega
  | n + 1, j, out, h, hj, ho => by
    simp only [ref16_All_L2]
    by_cases hlt : j < c.fFields.length
    · have hroom : ∀ z : GSlot_ref16, room ((out.length : Int) + (([z].length : Nat) : Int)) 136 = some () := fun z => room_ok (by simp; omega)
      rw [if_pos (by simpa using hlt), idx_lt hlt]
      simp only [obs, hroom]
      rw [w64_succ hlt (by omega), ref_All_L2_eq hN n (j + 1) _ (by omega) (by omega) (by simp; omega), List.drop_eq_getElem_cons hlt]
      simp only [List.map_cons, List.append_assoc, List.singleton_append]
    · rw [if_neg (by simpa using hlt), List.drop_eq_nil_of_le (by omega)]
      simp
theorem ref_All_L1_eq {p : List GClass} {N : Nat} (hN : N ≤ 1000) (hf : fieldsOk p N) (l : List Nat) (hl : ∀ x ∈ l, x < p.length) (hll : l.length ≤ 1000000) : ∀ (n : Nat) (out : List GSlot_ref16), n ≤ l.length → out.length + n * N ≤ 1000000000 →
    ref16_All_L1 p (l.map Int.ofNat) (n + 1) out ((n : Int) - 1) = some (out ++ (allS p (l.take n)).map asRef)
  | 0, out, _, _ => by
    simp only [ref16_All_L1]
    rw [if_neg (by simp)]
    simp [allS]
  | n + 1, out, h, ho => by
    have hn : idx (l.map Int.ofNat) (n : Int) = some (Int.ofNat l[n]) := by rw [idx_nat, List.getElem?_map, List.getElem?_eq_getElem (by omega)]; rfl
    have hx := hl l[n] (List.getElem_mem (by omega))
    have hk : p[l[n]]? = some p[l[n]] := List.getElem?_eq_getElem hx
    have hidx : idx p (Int.ofNat l[n]) = some p[l[n]] := idx_lt hx
    have hc := hf p[l[n]] (List.getElem_mem hx)
    rw [Nat.add_mul, Nat.one_mul] at ho
    have hL := ref_All_L2_eq (c := p[l[n]]) (by omega) (p[l[n]].fFields.length + 1) 0 out (by omega) (by omega) (by omega)
    rw [show (((n + 1 : Nat) : Int) - 1) = (n : Int) by omega, ref16_All_L1, if_pos (by simp)]
    simp only [hn, hidx, obs]
    rw [show (((p[l[n]].fFields.length : Int) : Int) - (0)).toNat + 1 = p[l[n]].fFields.length + 1 by omega, show (0 : Int) = ((0 : Nat) : Int) from rfl, hL]
    simp only [obs, List.drop_zero]
    have hlen : (p[l[n]].fFields.map fun v => ({ fClass := p[l[n]].fName, fVar := v } : GSlot_ref16)).length ≤ N := by simpa using hc
    rw [w64 (by omega) (by omega), ref_All_L1_eq hN hf l hl hll n _ (by omega) (by rw [List.length_append]; omega)]
    congr 1
    have ht : l.take (n + 1) = l.take n ++ [l[n]] := by rw [List.take_add_one, List.getElem?_eq_getElem (by omega)]; rfl
    rw [ht]
    have : slotsAt p l[n] = p[l[n]].fFields.map fun v => ({ fClass := p[l[n]].fName, fVar := v } : GSlot_field) := by unfold slotsAt; rw [hk]; rfl
    rw [allS_snoc, List.map_append, this, List.map_map, List.append_assoc]
    rfl
theorem ref_All_eq {p : List GClass} {N : Nat} (hp : p.length ≤ 1000) (hN : N ≤ 1000) (hf : fieldsOk p N) (name : List UInt8) : ref16_All p name = some ((flds p name).map asRef) := by
  unfold ref16_All
  rw [ref_Chain_eq (by omega)]
  obtain ⟨_, _, _, _, _, _, k7, _⟩ := ch_facts p name
  have hcl := ch_len p name
  have hNm : (ch p name).length * N ≤ 1000 * 1000 := Nat.mul_le_mul (by omega) hN
  simp only [obs, List.length_map]
  rw [w64 (by omega) (by omega)]
  have h := ref_All_L1_eq hN hf (ch p name) (fun x hx => (k7 x hx).1) (by omega) (ch p name).length [] (Nat.le_refl _) (by simp; omega)
  rcases Nat.eq_zero_or_pos (ch p name).length with h0 | h0
  · have hnil : ch p name = [] := List.eq_nil_of_length_eq_zero h0
    rw [hnil]
    simp [flds, hnil, allS, ref16_All_L1, obs]
  · rw [show ((((ch p name).length : Int) - 1 : Int) - (0)).toNat + 2 = (ch p name).length + 1 by omega, h]
    simp [obs, flds]

theorem great_L {p : List GClass} (hp : p.length ≤ 9223372036854775807) : ∀ (n k : Nat), n + k = p.length + 1 → k ≤ p.length →
    law16_great_L1 p n (k : Int) = some (.stop true) ∨ (law16_great_L1 p n (k : Int) = some (.next ()) ∧ ∀ c ∈ p.drop k, c.fFields.length ≤ 40)
  | 0, k, h, hk => by omega
  | n + 1, k, h, hk => by
    simp only [law16_great_L1]
    by_cases hlt : k < p.length
    · rw [if_pos (by simpa using hlt), idx_lt hlt]
      simp only [obs]
      by_cases hc : (decide ((p[k].fFields.length : Int) > 40)) = true
      · rw [if_pos hc]; exact .inl rfl
      · rw [if_neg hc, w64_succ hlt (by omega)]
        rcases great_L hp n (k + 1) (by omega) (by omega) with h1 | ⟨h1, h2⟩
        · exact .inl h1
        · refine .inr ⟨h1, fun c hm => ?_⟩
          rw [List.drop_eq_getElem_cons hlt] at hm
          rcases List.mem_cons.1 hm with rfl | hm
          · simp at hc; omega
          · exact h2 c hm
    · rw [if_neg (by simpa using hlt), List.drop_eq_nil_of_le (by omega)]
      exact .inr ⟨rfl, fun c hm => by simp at hm⟩
theorem great_eq {p : List GClass} (hp : p.length ≤ 9223372036854775807) : ∃ b, law16_great p = some b ∧ (b = false → p.length ≤ 30 ∧ fieldsOk p 40) := by
  unfold law16_great
  rw [show (((p.length : Int) : Int) - (0)).toNat + 1 = p.length + 1 by omega, show (0 : Int) = ((0 : Nat) : Int) from rfl]
  rcases great_L hp (p.length + 1) 0 (by omega) (by omega) with h1 | ⟨h1, h2⟩
  · rw [h1]
    exact ⟨true, rfl, fun hb => by cases hb⟩
  · rw [h1]
    refine ⟨_, rfl, fun hb => ⟨by simp at hb; omega, fun c hm => h2 c (by simpa using hm)⟩⟩

/-! ### Loops that search, loops that gather. -/
/-- The first answer among `g k`, `g (k + 1)`, .., `m` of them. -/
def frst {R : Type} (g : Nat → Option R) : Nat → Nat → Option R
  | _, 0 => none
  | k, m + 1 => match g k with
    | some r => some r
    | none => frst g (k + 1) m
def hitC {R : Type} : Option R → Ctl R Unit
  | some r => .stop r
  | none => .next ()
theorem srch {R : Type} {L : Nat → Int → Option (Ctl R Unit)} {len : Nat} {g : Nat → Option R} (hend : ∀ n, L (n + 1) (len : Int) = some (.next ()))
    (hstep : ∀ n k : Nat, k < len → L (n + 1) (k : Int) = match g k with | some r => some (.stop r) | none => L n ((k + 1 : Nat) : Int)) : ∀ m k n : Nat, k + m = len → m < n → L n (k : Int) = some (hitC (frst g k m))
  | 0, k, 0, _, h => by omega
  | 0, k, n + 1, h, _ => by rw [show k = len by omega, hend]; rfl
  | m + 1, k, 0, _, h => by omega
  | m + 1, k, n + 1, h, h' => by
    rw [hstep n k (by omega)]
    simp only [frst]
    cases g k with
    | some r => rfl
    | none => exact srch hend hstep m (k + 1) n (by omega) (by omega)
theorem srch0 {R : Type} {L : Nat → Int → Option (Ctl R Unit)} {len : Nat} {g : Nat → Option R} (hend : ∀ n, L (n + 1) (len : Int) = some (.next ()))
    (hstep : ∀ n k : Nat, k < len → L (n + 1) (k : Int) = match g k with | some r => some (.stop r) | none => L n ((k + 1 : Nat) : Int)) {n : Nat} (hn : len < n) : L n 0 = some (hitC (frst g 0 len)) :=
  srch hend hstep len 0 n (by omega) hn
theorem frst_congr {R : Type} {g g' : Nat → Option R} : ∀ (m k : Nat), (∀ j, k ≤ j → j < k + m → g j = g' j) → frst g k m = frst g' k m
  | 0, k, _ => rfl
  | m + 1, k, h => by
    simp only [frst, h k (Nat.le_refl _) (by omega)]
    cases g' k with
    | some r => rfl
    | none => exact frst_congr m (k + 1) fun j h1 h2 => h j (by omega) (by omega)
theorem frst_any {α R : Type} {g : Nat → Option R} {b : α → Bool} {r : R} (l : List α) : ∀ (m k : Nat), k + m = l.length → (∀ j x, l[j]? = some x → g j = if b x then some r else none) → frst g k m = if (l.drop k).any b then some r else none
  | 0, k, h, _ => by rw [List.drop_eq_nil_of_le (by omega)]; simp [frst]
  | m + 1, k, h, hg => by
    have hlt : k < l.length := by omega
    rw [List.drop_eq_getElem_cons hlt]
    simp only [frst, hg k l[k] (List.getElem?_eq_getElem hlt), List.any_cons]
    by_cases hb : b l[k] = true
    · simp [hb]
    · simp only [hb, Bool.false_or]
      exact frst_any l m (k + 1) (by omega) hg
theorem frst_none {R : Type} {g : Nat → Option R} : ∀ (m k : Nat), frst g k m = none → ∀ j, k ≤ j → j < k + m → g j = none
  | 0, k, _, j, h1, h2 => by omega
  | m + 1, k, h, j, h1, h2 => by
    simp only [frst] at h
    cases hg : g k with
    | some r => rw [hg] at h; cases h
    | none =>
      rw [hg] at h
      by_cases hj : j = k
      · rw [hj]; exact hg
      · exact frst_none m (k + 1) h j (by omega) (by omega)
theorem frst_some {R : Type} {g : Nat → Option R} {r : R} : ∀ (m k : Nat), frst g k m = some r → ∃ j, k ≤ j ∧ j < k + m ∧ g j = some r ∧ ∀ i, k ≤ i → i < j → g i = none
  | 0, k, h => by cases h
  | m + 1, k, h => by
    simp only [frst] at h
    cases hg : g k with
    | some r' =>
      rw [hg] at h; cases h
      exact ⟨k, Nat.le_refl _, by omega, hg, fun i h1 h2 => by omega⟩
    | none =>
      rw [hg] at h
      obtain ⟨j, h1, h2, h3, h4⟩ := frst_some m (k + 1) h
      refine ⟨j, by omega, by omega, h3, fun i h5 h6 => ?_⟩
      by_cases hi : i = k
      · rw [hi]; exact hg
      · exact h4 i (by omega) h6
/-- `m` rounds from round `k` on. -/
def itr {S : Type} (f : Nat → S → S) : Nat → Nat → S → S
  | _, 0, s => s
  | k, m + 1, s => itr f (k + 1) m (f k s)
theorem nat_cast0 : (0 : Int) = ((0 : Nat) : Int) := rfl
theorem fuelN (n : Nat) : (((n : Int) : Int) - (0)).toNat + 1 = n + 1 := by omega

/-! ### Where a field of a name stands. -/
def gnm (l : List GSlot_field) (name : List UInt8) (k : Nat) : Option Int := match l[k]? with | some s => if s.fVar.fName == name then some (k : Int) else none | none => none
def fplace (l : List GSlot_field) (name : List UInt8) : Option Int := frst (gnm l name) 0 l.length
def fposn (l : List GSlot_field) (name : List UInt8) : Int := match fplace l name with | some i => i | none => -1
theorem fplace_some {l : List GSlot_field} {name : List UInt8} {i : Int} (h : fplace l name = some i) : ∃ k : Nat, i = k ∧ ∃ hk : k < l.length, l[k].fVar.fName = name ∧ ∀ j (hj : j < k), l[j].fVar.fName ≠ name := by
  obtain ⟨k, h1, h2, h3, h4⟩ := frst_some _ _ h
  have hk : k < l.length := by omega
  simp only [gnm, List.getElem?_eq_getElem hk] at h3
  split at h3
  · rename_i hc
    cases h3
    refine ⟨k, rfl, hk, by simpa using hc, fun j hj => ?_⟩
    have := h4 j (by omega) hj
    simp only [gnm, List.getElem?_eq_getElem (show j < l.length by omega)] at this
    split at this
    · cases this
    · rename_i hc; simpa using hc
  · cases h3
theorem indexFunc_eq {l : List GSlot_field} (hl : l.length ≤ 1000000) (name : List UInt8) : slices_IndexFunc_field_Slot l (fun (z5 : GSlot_field) => field_named_1 z5 name) = some (fposn l name) := by
  unfold slices_IndexFunc_field_Slot
  rw [fuelN, srch0 (L := slices_IndexFunc_field_Slot_L1 l (fun (z5 : GSlot_field) => field_named_1 z5 name)) (len := l.length) (g := gnm l name) (fun n => ?_) (fun n k hk => ?_) (Nat.lt_succ_self _)]
  · simp only [obs]
    unfold fposn fplace
    cases frst (gnm l name) 0 l.length <;> rfl
  · simp only [slices_IndexFunc_field_Slot_L1]
    rw [if_neg (by simp)]
  · simp only [slices_IndexFunc_field_Slot_L1]
    rw [if_pos (by simpa using hk), idx_lt hk, w64_succ hk (by omega)]
    simp only [obs, field_named_1, gnm, List.getElem?_eq_getElem hk]
    by_cases hc : (l[k].fVar.fName == name) = true
    · rw [if_pos hc, if_pos hc]
    · rw [if_neg hc, if_neg hc]
theorem field_Find_eq {p : List GClass} {N : Nat} (hp : p.length ≤ 1000) (hN : N ≤ 1000) (hf : fieldsOk p N) (name f : List UInt8) : field_Find p name f = some (fposn (flds p name) f) := by
  unfold field_Find
  rw [field_All_eq hp hN hf]
  simp only [obs, field_named]
  rw [indexFunc_eq (flds_len hp hN hf name)]
  rfl
def zslot : GSlot_field := { fClass := [], fVar := { fName := [], fType := { fKind := 0, fClass := [], fN := 0, fOwn := ⟨⟨0, 0⟩, ⟨0, 0⟩, ⟨0, 0⟩, ⟨0, 0⟩⟩ }, fAt := 0 } }
theorem field_Of_eq {p : List GClass} {N : Nat} (hp : p.length ≤ 1000) (hN : N ≤ 1000) (hf : fieldsOk p N) (name f : List UInt8) : field_Of p name f = some (match fplace (flds p name) f with | some i => ((flds p name).getD i.toNat zslot, true) | none => (zslot, false)) ∧ ref16_Of p name f = some (match fplace (flds p name) f with | some i => (asRef ((flds p name).getD i.toNat zslot), true) | none => (asRef zslot, false)) ∧ ref16_Find p name f = some (fposn (flds p name) f) := by
  have hfl := flds_len hp hN hf name
  have hrf : ref16_Find p name f = some (fposn (flds p name) f) := by
    unfold ref16_Find
    rw [ref_All_eq hp hN hf]
    simp only [obs]
    rw [show ((flds p name).map asRef).length = (flds p name).length by simp, fuelN, srch0 (L := ref16_Find_L1 f ((flds p name).map asRef)) (len := (flds p name).length) (g := gnm (flds p name) f) (fun n => ?_) (fun n k hk => ?_) (Nat.lt_succ_self _)]
    · simp only [obs]
      unfold fposn fplace
      cases frst (gnm (flds p name) f) 0 (flds p name).length <;> rfl
    · simp only [ref16_Find_L1]
      rw [if_neg (by simp)]
    · have h2 : idx ((flds p name).map asRef) (k : Int) = some (asRef (flds p name)[k]) := by rw [idx_nat, List.getElem?_map, List.getElem?_eq_getElem hk]; rfl
      simp only [ref16_Find_L1]
      rw [if_pos (by simpa using hk), h2, w64_succ hk (by omega)]
      simp only [obs, gnm, List.getElem?_eq_getElem hk]
      show (if ((flds p name)[k].fVar.fName == f) = true then _ else _) = _
      by_cases hc : ((flds p name)[k].fVar.fName == f) = true
      · rw [if_pos hc, if_pos hc]
      · rw [if_neg hc, if_neg hc]
  refine ⟨?_, ?_, hrf⟩
  rotate_left
  · unfold ref16_Of
    rw [hrf]
    simp only [obs]
    unfold fposn
    cases hq : fplace (flds p name) f with
    | none => rfl
    | some i =>
      obtain ⟨k, rfl, hk, _⟩ := fplace_some hq
      have h2 : idx ((flds p name).map asRef) (k : Int) = some (asRef (flds p name)[k]) := by rw [idx_nat, List.getElem?_map, List.getElem?_eq_getElem hk]; rfl
      dsimp only
      rw [if_neg (by simp), ref_All_eq hp hN hf]
      simp only [obs, h2]
      simp [hk]
  · unfold field_Of
    rw [field_All_eq hp hN hf]
    simp only [obs, field_named]
    rw [indexFunc_eq hfl]
    simp only [obs]
    unfold fposn
    cases hq : fplace (flds p name) f with
    | none => rfl
    | some i =>
      obtain ⟨k, rfl, hk, _⟩ := fplace_some hq
      dsimp only
      rw [if_neg (by simp), idx_lt hk]
      simp only [obs]
      simp [hk]

/-! ### A field that stands twice. -/
/-- Has the class at `j` a field of the name? -/
def hasF (p : List GClass) (name : List UInt8) (j : Nat) : Bool := match p[j]? with | some c => c.fFields.any (fun v => v.fName == name) | none => false
/-- Is there one in another class of the chain of the class at `i`? -/
def othF (p : List GClass) (i : Nat) (cn name : List UInt8) : Bool := (ch p cn).any (fun j => !(j == i) && hasF p name j)
def gck (p : List GClass) (i : Nat) (c : GClass) (k : Nat) : Option GFault := match c.fFields[k]? with | some v => if othF p i c.fName v.fName then some ({ fErr := 7, fAt := v.fAt } : GFault) else none | none => none
def gcl (p : List GClass) (i : Nat) : Option GFault := match p[i]? with | some c => frst (gck p i c) 0 c.fFields.length | none => none
def chkF (p : List GClass) : Option GFault := frst (gcl p) 0 p.length
/-- What a map of names says. -/
structure Knows (m : List UInt8 → Int) (n : Nat) (S : List UInt8 → Bool) : Prop where
  lo : ∀ x, 0 ≤ m x
  hi : ∀ x, m x ≤ n
  iff : ∀ x, decide (m x > 0) = S x
theorem Knows.ext {m : List UInt8 → Int} {n : Nat} {S S' : List UInt8 → Bool} (h : Knows m n S) (e : ∀ x, S x = S' x) : Knows m n S' := ⟨h.lo, h.hi, fun x => (h.iff x).trans (e x)⟩
theorem Knows.mono {m : List UInt8 → Int} {n n' : Nat} {S : List UInt8 → Bool} (h : Knows m n S) (e : n ≤ n') : Knows m n' S := ⟨h.lo, fun x => Int.le_trans (h.hi x) (by omega), h.iff⟩
theorem check_L3 {c : GClass} (hc : ∀ v ∈ c.fFields, v.fName.length ≤ maxLen) (hl : c.fFields.length ≤ 1000) : ∀ (n k : Nat) (nn : Nat) (m : List UInt8 → Int) (S : List UInt8 → Bool), n + k = c.fFields.length + 1 → k ≤ c.fFields.length → nn + (c.fFields.length - k) ≤ 2000000 → Knows m nn S →
    ∃ m', field_Check_L3 c n nn m (k : Int) = some (nn + (c.fFields.length - k), m') ∧ Knows m' (nn + (c.fFields.length - k)) (fun x => S x || (c.fFields.drop k).any (fun v => v.fName == x))
  | 0, k, nn, m, S, h, hk, _, _ => by omega
  | n + 1, k, nn, m, S, h, hk, hn, hm => by
    simp only [field_Check_L3]
    by_cases hlt : k < c.fFields.length
    · have hv : c.fFields[k].fName.length ≤ maxLen := hc _ (List.getElem_mem hlt)
      have h0 := hm.lo c.fFields[k].fName
      have h1 := hm.hi c.fFields[k].fName
      rw [if_pos (by simpa using hlt), idx_lt hlt]
      have hg : mget m c.fFields[k].fName = some (m c.fFields[k].fName) := by unfold mget; rw [if_pos hv]
      have hp : mput nn m c.fFields[k].fName (w_i64 (m c.fFields[k].fName + 1)) = some (fun x => if x = c.fFields[k].fName then m c.fFields[k].fName + 1 else m x) := by
        rw [w64 (by omega) (by omega)]
        unfold mput
        rw [if_pos ⟨hv, by simp only [maxLen]; omega, Int.le_trans (show IntKind.i64.min ≤ 0 by decide) (by omega), Int.le_trans (b := 3000000) (by omega) (by decide)⟩]
      simp only [obs, hg, hp]
      rw [w64_succ hlt (by omega)]
      obtain ⟨m', q1, q2⟩ := check_L3 hc hl n (k + 1) (nn + 1) (fun x => if x = c.fFields[k].fName then m c.fFields[k].fName + 1 else m x) (fun x => S x || (c.fFields[k].fName == x)) (by omega) (by omega) (by omega)
        ⟨fun x => by split; omega; exact hm.lo x, fun x => by have := hm.hi x; split <;> omega, fun x => by
          by_cases hx : x = c.fFields[k].fName
          · rw [if_pos hx, hx]; simp; omega
          · rw [if_neg hx, hm.iff x]; simp [Ne.symm hx]⟩
      refine ⟨m', by rw [q1]; congr 2; omega, ?_⟩
      refine Knows.ext (Knows.mono q2 (by omega)) fun x => ?_
      rw [List.drop_eq_getElem_cons hlt, List.any_cons, Bool.or_assoc]
    · rw [if_neg (by simpa using hlt)]
      refine ⟨m, by rw [show nn + (c.fFields.length - k) = nn by omega], ?_⟩
      refine Knows.ext (Knows.mono hm (by omega)) fun x => ?_
      rw [List.drop_eq_nil_of_le (by omega)]; simp
theorem check_L2 {p : List GClass} {i N : Nat} (hc : ∀ c ∈ p, ∀ v ∈ c.fFields, v.fName.length ≤ maxLen) (hN : N ≤ 1000) (hf : fieldsOk p N) {l : List Nat} (hl : ∀ x ∈ l, x < p.length) (hll : l.length ≤ 1000) : ∀ (n k : Nat) (nn : Nat) (m : List UInt8 → Int) (S : List UInt8 → Bool), n + k = l.length + 1 → k ≤ l.length → nn ≤ k * N → Knows m nn S →
    ∃ nn' m', field_Check_L2 p (i : Int) (l.map Int.ofNat) n nn m (k : Int) = some (nn', m') ∧ Knows m' nn' (fun x => S x || (l.drop k).any (fun j => !(j == i) && hasF p x j))
  | 0, k, nn, m, S, h, hk, _, _ => by omega
  | n + 1, k, nn, m, S, h, hk, hn, hm => by
    have hkN : k * N ≤ 1000 * 1000 := Nat.mul_le_mul (by omega) hN
    simp only [field_Check_L2]
    by_cases hlt : k < l.length
    · have hx := hl l[k] (List.getElem_mem hlt)
      have h2 : idx (l.map Int.ofNat) (k : Int) = some ((l[k] : Nat) : Int) := by rw [idx_nat, List.getElem?_map, List.getElem?_eq_getElem hlt]; rfl
      rw [if_pos (by simpa using hlt), h2, w64_succ hlt (by omega)]
      simp only [obs]
      by_cases he : l[k] = i
      · rw [if_pos (by simp [he])]
        simp only [obs]
        obtain ⟨nn', m', q1, q2⟩ := check_L2 (i := i) hc hN hf hl hll n (k + 1) nn m S (by omega) (by omega) (by rw [Nat.add_mul]; omega) hm
        refine ⟨nn', m', q1, Knows.ext q2 fun x => ?_⟩
        rw [List.drop_eq_getElem_cons hlt, List.any_cons]; simp [he]
      · have hcm := List.getElem_mem hx
        have hfl := hf _ hcm
        rw [if_neg (by simp; omega), idx_lt hx]
        simp only [obs]
        obtain ⟨m1, r1, r2⟩ := check_L3 (hc _ hcm) (by omega) (p[l[k]].fFields.length + 1) 0 nn m S (by omega) (by omega) (by omega) hm
        rw [show (((p[l[k]].fFields.length : Int) : Int) - (0)).toNat + 1 = p[l[k]].fFields.length + 1 by omega, show (0 : Int) = ((0 : Nat) : Int) from rfl, r1]
        simp only [obs]
        obtain ⟨nn', m', q1, q2⟩ := check_L2 (i := i) hc hN hf hl hll n (k + 1) _ m1 _ (by omega) (by omega) (by rw [Nat.add_mul]; omega) r2
        refine ⟨nn', m', q1, Knows.ext q2 fun x => ?_⟩
        rw [List.drop_eq_getElem_cons hlt, List.any_cons]
        have hh : hasF p x l[k] = p[l[k]].fFields.any (fun v => v.fName == x) := by unfold hasF; rw [List.getElem?_eq_getElem hx]
        rw [hh, List.drop_zero, show (!(l[k] == i)) = true by simpa using he, Bool.true_and, Bool.or_assoc]
    · rw [if_neg (by simpa using hlt)]
      refine ⟨nn, m, rfl, Knows.ext hm fun x => ?_⟩
      rw [List.drop_eq_nil_of_le (by omega)]; simp
theorem field_Check_eq {p : List GClass} {N : Nat} (hp : p.length ≤ 1000) (hc : ∀ c ∈ p, ∀ v ∈ c.fFields, v.fName.length ≤ maxLen) (hN : N ≤ 1000) (hf : fieldsOk p N) : field_Check p = some (match chkF p with | some f => f | none => ⟨0, 0⟩) := by
  unfold field_Check
  rw [fuelN, srch0 (L := field_Check_L1 p) (len := p.length) (g := gcl p) (fun n => ?_) (fun n i hi => ?_) (Nat.lt_succ_self _)]
  · simp only [obs]
    unfold chkF
    cases frst (gcl p) 0 p.length <;> rfl
  · simp only [field_Check_L1]
    rw [if_neg (by simp)]
  · have hcl := ch_len p p[i].fName
    obtain ⟨_, _, _, _, _, _, k7, _⟩ := ch_facts p p[i].fName
    have hfl := hf _ (List.getElem_mem hi)
    simp only [field_Check_L1]
    rw [if_pos (by simpa using hi), idx_lt hi, w64_succ hi (by omega)]
    simp only [obs, above_Chain_eq (show p.length ≤ 1000000 by omega), List.length_map]
    obtain ⟨nn, m, q1, q2⟩ := check_L2 (p := p) (i := i) hc hN hf (l := ch p p[i].fName) (fun x hx => (k7 x hx).1) (by omega) ((ch p p[i].fName).length + 1) 0 0 (fun _ => 0) (fun _ => false) (by omega) (by omega) (by omega) ⟨fun _ => Int.le_refl _, fun _ => Int.le_refl _, fun _ => rfl⟩
    rw [fuelN, fuelN]
    have q1' := q1
    rw [show ((0 : Nat) : Int) = 0 from rfl] at q1'
    rw [q1']
    simp only [obs]
    rw [srch0 (L := field_Check_L4 m p[i]) (len := p[i].fFields.length) (g := gck p i p[i]) (fun n => ?_) (fun n k hk => ?_) (Nat.lt_succ_self _)]
    · simp only [obs, gcl, List.getElem?_eq_getElem hi]
      cases frst (gck p i p[i]) 0 p[i].fFields.length <;> rfl
    · simp only [field_Check_L4]
      rw [if_neg (by simp)]
    · have hv := hc _ (List.getElem_mem hi) _ (List.getElem_mem hk)
      have hg : mget m p[i].fFields[k].fName = some (m p[i].fFields[k].fName) := by unfold mget; rw [if_pos hv]
      simp only [field_Check_L4]
      rw [if_pos (by simpa using hk), idx_lt hk, w64_succ hk (by omega)]
      simp only [obs, hg, q2.iff, List.drop_zero, Bool.false_or, gck, List.getElem?_eq_getElem hk]
      show (if othF p i p[i].fName p[i].fFields[k].fName = true then _ else _) = _
      by_cases ho : othF p i p[i].fName p[i].fFields[k].fName = true
      · rw [if_pos ho, if_pos ho]
      · rw [if_neg ho, if_neg ho]

theorem refcheck_L4 {p : List GClass} {i k j : Nat} {l : List Nat} {c cj : GClass} {v : GVar} (hi : p[i]? = some c) (hk : c.fFields[k]? = some v) (hj : l[j]? ≠ none) (hcj : ∀ x, l[j]? = some x → p[x]? = some cj) (hlen : cj.fFields.length ≤ 40) :
    ref16_Check_L4 p (i : Int) (k : Int) (j : Int) (l.map Int.ofNat) cj 42 0 = some (hitC (if l[j]? ≠ some i ∧ cj.fFields.any (fun z => z.fName == v.fName) = true then some ({ fErr := 7, fAt := v.fAt } : GFault) else none)) := by
  obtain ⟨x, hx⟩ : ∃ x, l[j]? = some x := by cases h : l[j]? with | none => exact absurd h hj | some x => exact ⟨x, rfl⟩
  have h2 : idx (l.map Int.ofNat) (j : Int) = some ((x : Nat) : Int) := by rw [idx_nat, List.getElem?_map, hx]; rfl
  have hip : idx p (i : Int) = some c := by rw [idx_nat]; exact hi
  have hkp : idx c.fFields (k : Int) = some v := by rw [idx_nat]; exact hk
  by_cases he : x = i
  · subst he
    rw [if_neg (by simp [hx])]
    rw [show (42 : Nat) = 41 + 1 from rfl, ref16_Check_L4]
    by_cases h0 : decide ((0 : Int) < (cj.fFields.length : Int)) = true
    · rw [if_pos h0, h2]; simp only [obs]; rw [if_neg (by simp)]; rfl
    · rw [if_neg h0]; simp only [obs]; rw [if_neg (by simp)]; rfl
  · rw [srch0 (L := ref16_Check_L4 p (i : Int) (k : Int) (j : Int) (l.map Int.ofNat) cj) (len := cj.fFields.length) (g := fun n => match cj.fFields[n]? with | some z => if z.fName == v.fName then some ({ fErr := 7, fAt := v.fAt } : GFault) else none | none => none) (fun n => ?_) (fun n t ht => ?_) (by omega)]
    · rw [frst_any (b := fun z => z.fName == v.fName) (r := ({ fErr := 7, fAt := v.fAt } : GFault)) cj.fFields cj.fFields.length 0 (by omega) (fun t z hz => by rw [hz])]
      rw [List.drop_zero, hx]
      by_cases ha : cj.fFields.any (fun z => z.fName == v.fName) = true
      · rw [if_pos ha, if_pos ⟨by simpa using he, ha⟩]
      · rw [if_neg ha, if_neg (fun h => ha h.2)]
    · simp only [ref16_Check_L4]
      rw [if_neg (by simp)]; simp only [obs]; rw [if_neg (by simp)]
    · simp only [ref16_Check_L4]
      rw [if_pos (by simpa using ht), h2]
      simp only [obs]
      rw [if_pos (by simp; omega), idx_lt ht, hip, w64_succ ht (by omega)]
      simp only [obs, hkp, List.getElem?_eq_getElem ht]
      by_cases hc : (cj.fFields[t].fName == v.fName) = true
      · rw [if_pos hc, if_pos hc]
      · rw [if_neg hc, if_neg hc]
theorem refcheck_L3 {p : List GClass} {i k : Nat} {l : List Nat} {c : GClass} {v : GVar} (hi : p[i]? = some c) (hk : c.fFields[k]? = some v) (hl : ∀ x ∈ l, x < p.length) (hll : l.length ≤ 1000000) (hf : fieldsOk p 40) {n : Nat} (hn : l.length < n) :
    ref16_Check_L3 p (i : Int) (k : Int) (l.map Int.ofNat) n 0 = some (hitC (if l.any (fun j => !(j == i) && hasF p v.fName j) then some ({ fErr := 7, fAt := v.fAt } : GFault) else none)) := by
  rw [srch0 (L := ref16_Check_L3 p (i : Int) (k : Int) (l.map Int.ofNat)) (len := l.length) (g := fun t => match l[t]? with | some j => if (!(j == i) && hasF p v.fName j) then some ({ fErr := 7, fAt := v.fAt } : GFault) else none | none => none) (fun n => ?_) (fun n t ht => ?_) hn]
  · rw [frst_any (b := fun j => !(j == i) && hasF p v.fName j) (r := ({ fErr := 7, fAt := v.fAt } : GFault)) l l.length 0 (by omega) (fun t z hz => by rw [hz]), List.drop_zero]
  · simp only [ref16_Check_L3]
    rw [if_neg (by simp)]
  · have hx := hl l[t] (List.getElem_mem ht)
    have h2 : idx (l.map Int.ofNat) (t : Int) = some ((l[t] : Nat) : Int) := by rw [idx_nat, List.getElem?_map, List.getElem?_eq_getElem ht]; rfl
    simp only [ref16_Check_L3]
    rw [if_pos (by simpa using ht), h2]
    simp only [obs]
    rw [idx_lt hx, w64_succ ht (by omega)]
    simp only [obs]
    rw [refcheck_L4 hi hk (by simp [ht]) (fun x hx' => by rw [List.getElem?_eq_getElem ht] at hx'; cases hx'; exact List.getElem?_eq_getElem hx) (hf _ (List.getElem_mem hx))]
    simp only [obs, List.getElem?_eq_getElem ht, hasF, List.getElem?_eq_getElem hx]
    by_cases he : l[t] = i
    · rw [if_neg (by simp [he])]; simp [he, hitC, Ctl.elim]
    · by_cases ha : p[l[t]].fFields.any (fun z => z.fName == v.fName) = true
      · rw [if_pos ⟨by simpa using he, ha⟩, ha]; simp [he, hitC, Ctl.elim]
      · rw [if_neg (fun h => ha h.2)]; simp [he, hitC, Ctl.elim, ha]
theorem ref16_Check_eq {p : List GClass} (hp : p.length ≤ 1000) (hf : fieldsOk p 40) : ref16_Check p = some (match chkF p with | some f => f | none => ⟨0, 0⟩) := by
  unfold ref16_Check
  rw [fuelN, srch0 (L := ref16_Check_L1 p) (len := p.length) (g := gcl p) (fun n => ?_) (fun n i hi => ?_) (Nat.lt_succ_self _)]
  · simp only [obs]
    unfold chkF
    cases frst (gcl p) 0 p.length <;> rfl
  · simp only [ref16_Check_L1]
    rw [if_neg (by simp)]
  · have hcl := ch_len p p[i].fName
    obtain ⟨_, _, _, _, _, _, k7, _⟩ := ch_facts p p[i].fName
    have hfl := hf _ (List.getElem_mem hi)
    have hip : p[i]? = some p[i] := List.getElem?_eq_getElem hi
    simp only [ref16_Check_L1]
    rw [if_pos (by simpa using hi), idx_lt hi, w64_succ hi (by omega)]
    simp only [obs, ref_Chain_eq (show p.length ≤ 1000000 by omega), Option.getD]
    rw [fuelN, srch0 (L := ref16_Check_L2 p (i : Int) ((ch p p[i].fName).map Int.ofNat)) (len := p[i].fFields.length) (g := gck p i p[i]) (fun n => ?_) (fun n k hk => ?_) (Nat.lt_succ_self _)]
    · simp only [obs, gcl, hip]
      cases frst (gck p i p[i]) 0 p[i].fFields.length <;> rfl
    · simp only [ref16_Check_L2]
      rw [idx_lt hi]
      simp only [obs]
      rw [if_neg (by simp)]
    · simp only [ref16_Check_L2]
      rw [idx_lt hi]
      simp only [obs]
      rw [if_pos (by simpa using hk), List.length_map, fuelN, refcheck_L3 hip (List.getElem?_eq_getElem hk) (fun x hx => (k7 x hx).1) (by omega) hf (Nat.lt_succ_self _), w64_succ hk (by omega)]
      simp only [obs, gck, List.getElem?_eq_getElem hk]
      rw [show othF p i p[i].fName p[i].fFields[k].fName = (ch p p[i].fName).any (fun j => !(j == i) && hasF p p[i].fFields[k].fName j) from rfl]
      by_cases ho : (ch p p[i].fName).any (fun j => !(j == i) && hasF p p[i].fFields[k].fName j) = true
      · rw [if_pos ho]; rfl
      · rw [if_neg ho]; rfl

theorem slot_refl (s : GSlot_field) : bGSlot_field s ({ fClass := (asRef s).fClass, fVar := (asRef s).fVar } : GSlot_field) = true := by
  unfold bGSlot_field asRef; simp
theorem law16_FieldFind_true {a0 : List GClass} {a1 a2 : List UInt8} (h0 : listok (fun y => goodGClass y) a0) (_h1 : strok a1) (_h2 : strok a2) : law16_FieldFind a0 a1 a2 = some true := by
  have haw : law16_awake = some true := by decide +kernel
  have hml : a0.length ≤ maxLen := h0.1
  simp only [maxLen] at hml
  obtain ⟨b, hb, hg⟩ := great_eq (p := a0) (by omega)
  unfold law16_FieldFind
  rw [hb]
  simp only [obs]
  cases b with
  | true => simp only [if_true, haw, obs]
  | false =>
    obtain ⟨hl, hf⟩ := hg rfl
    have hc : ∀ c ∈ a0, ∀ v ∈ c.fFields, v.fName.length ≤ maxLen := fun c hm v hv => ((h0.2 c hm).2.2.2.2.1.2 v hv).1
    obtain ⟨q1, q2, q3⟩ := field_Of_eq (p := a0) (by omega) (by omega) hf a1 a2
    rw [if_neg (by simp), q1, q2, q3, field_Find_eq (by omega) (by omega) hf, field_Check_eq (by omega) hc (by omega) hf, ref16_Check_eq (by omega) hf]
    simp only [obs]
    rw [if_pos (by simp)]
    have hbf : ∀ f : GFault, bGFault f f = true := fun f => by unfold bGFault; simp
    cases fplace (flds a0 a1) a2 with
    | none => dsimp only; rw [if_pos (slot_refl _), if_pos (by simp), if_pos (hbf _), haw]; rfl
    | some i => dsimp only; rw [if_pos (slot_refl _), if_pos (by simp), if_pos (hbf _), haw]; rfl

end Go.Proofs.Ytpbbeljmmabeeaa
