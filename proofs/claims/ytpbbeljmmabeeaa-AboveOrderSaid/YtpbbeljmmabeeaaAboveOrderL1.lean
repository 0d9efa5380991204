/- A part of the proof that the law AboveOrder gives true for every input. -/
import Derived.Test.YtpbbeljmmabeeaaAbsV
import Derived.Test.YtpbbeljmmabeeaaAboveOrderT
import Derived.Test.YtpbbeljmmabeeaaAboveOrderD
/- The plain law. -/
namespace Go.Proofs.Ytpbbeljmmabeeaa
open Go.RowKit Go.Abs
/-! ### The first class of a name. -/
def fiN : List GClass → Nat → List UInt8 → Option Nat
  | [], _, _ => none
  | c :: t, k, name => if c.fName == name then some k else fiN t (k + 1) name
def fi (p : List GClass) (name : List UInt8) : Option Nat := fiN p 0 name
def fnd (p : List GClass) (name : List UInt8) : Int := match fi p name with | some i => (i : Int) | none => -1
theorem fiN_spec : ∀ (l : List GClass) (k : Nat) (name : List UInt8) (i : Nat), fiN l k name = some i → k ≤ i ∧ ∃ c, l[i - k]? = some c ∧ c.fName = name
  | [], k, name, i, h => by simp [fiN] at h
  | c :: t, k, name, i, h => by
    simp only [fiN] at h
    split at h
    · rename_i hc
      cases h
      exact ⟨Nat.le_refl _, c, by simp, by simpa using hc⟩
    · obtain ⟨h1, c', h2, h3⟩ := fiN_spec t (k + 1) name i h
      refine ⟨by omega, c', ?_, h3⟩
      rw [show i - k = (i - (k + 1)) + 1 by omega, List.getElem?_cons_succ]
      exact h2
theorem fiN_some : ∀ (l : List GClass) (k : Nat) (c : GClass), c ∈ l → ∃ i, fiN l k c.fName = some i
  | [], k, c, h => by simp at h
  | c' :: t, k, c, h => by
    simp only [fiN]
    split
    · exact ⟨k, rfl⟩
    · rename_i hc
      rcases List.mem_cons.1 h with rfl | h
      · simp at hc
      · exact fiN_some t (k + 1) c h
theorem fi_spec {p : List GClass} {name : List UInt8} {i : Nat} (h : fi p name = some i) : ∃ c, p[i]? = some c ∧ c.fName = name := by
  obtain ⟨_, c, h1, h2⟩ := fiN_spec p 0 name i h
  exact ⟨c, by simpa using h1, h2⟩
theorem fi_lt {p : List GClass} {name : List UInt8} {i : Nat} (h : fi p name = some i) : i < p.length := by
  obtain ⟨c, h1, _⟩ := fi_spec h
  exact (List.getElem?_eq_some_iff.1 h1).1
theorem fi_some {p : List GClass} {c : GClass} (h : c ∈ p) : ∃ i, fi p c.fName = some i := fiN_some p 0 c h
theorem fnd_some {p : List GClass} {name : List UInt8} {i : Nat} (h : fi p name = some i) : fnd p name = (i : Int) := by unfold fnd; rw [h]
theorem fnd_none {p : List GClass} {name : List UInt8} (h : fi p name = none) : fnd p name = -1 := by unfold fnd; rw [h]
/-- What a loop over a list that stops at the first hit comes to. -/
def hit (o : Option Nat) : Ctl Int Unit := match o with | some i => .stop (i : Int) | none => .next ()

theorem indexFunc_L {p : List GClass} (name : List UInt8) (hp : p.length < 9223372036854775806) : ∀ (n k : Nat), n + k = p.length + 1 → k ≤ p.length →
    slices_IndexFunc_api_Class_L1 p (fun (z1 : GClass) => table_Find_1 z1 name) n (k : Int) = some (hit (fiN (p.drop k) k name))
  | 0, k, h, hk => by omega
  | n + 1, k, h, hk => by
    simp only [slices_IndexFunc_api_Class_L1]
    by_cases hlt : k < p.length
    · rw [if_pos (by simpa using hlt), idx_lt hlt, List.drop_eq_getElem_cons hlt]
      simp only [obs, table_Find_1, fiN]
      by_cases hc : (p[k].fName == name) = true
      · rw [if_pos hc, if_pos hc]; rfl
      · rw [if_neg hc, if_neg hc, w64_succ hlt (by omega)]
        exact indexFunc_L name hp n (k + 1) (by omega) (by omega)
    · rw [if_neg (by simpa using hlt), List.drop_eq_nil_of_le (by omega)]
      rfl
theorem table_Find_eq {p : List GClass} (hp : p.length < 9223372036854775806) (name : List UInt8) : table_Find p name = some (fnd p name) := by
  unfold table_Find slices_IndexFunc_api_Class
  have h := indexFunc_L name hp (p.length + 1) 0 (by omega) (by omega)
  rw [show (((p.length : Int) : Int) - (0)).toNat + 1 = p.length + 1 by omega, show (0 : Int) = ((0 : Nat) : Int) from rfl, h]
  simp only [List.drop_zero, obs]
  unfold fnd fi hit
  cases fiN p 0 name <;> rfl

/-! ### The walk up. -/
/-- The class that stands at `i`, its name's super. -/
def sup (p : List GClass) (i : Nat) : List UInt8 := match p[i]? with | some c => c.fSuper | none => []
def upN (p : List GClass) : Nat → List UInt8 → List Nat
  | 0, _ => []
  | n + 1, name => match fi p name with
    | none => []
    | some i => if sup p i == [] then [i] else i :: upN p n (sup p i)
theorem itR_up_n_eq {p : List GClass} (hp : p.length < 9223372036854775806) : ∀ (n : Nat) (name : List UInt8), itR_up_n p n name = some ((upN p n name).map Int.ofNat)
  | 0, name => rfl
  | n + 1, name => by
    simp only [itR_up_n, upN, table_Find_eq hp, obs]
    cases hf : fi p name with
    | none => rw [fnd_none hf]; simp
    | some i =>
      rw [fnd_some hf, if_neg (by omega)]
      obtain ⟨c, hc, _⟩ := fi_spec hf
      have hidx : idx p (i : Int) = some c := by rw [idx_nat]; exact hc
      rw [hidx]
      have hs : sup p i = c.fSuper := by unfold sup; rw [hc]
      simp only [obs, hs]
      by_cases he : (c.fSuper == []) = true
      · rw [if_pos he, if_pos he]; rfl
      · rw [if_neg he, if_neg he, itR_up_n_eq hp n c.fSuper]; rfl
theorem itR_up_eq {p : List GClass} (hp : p.length < 9223372036854775806) (name : List UInt8) : itR_up p name = some ((upN p (p.length + 1) name).map Int.ofNat) := by
  unfold itR_up; rw [if_pos hp, itR_up_n_eq hp]

/-- The chain: up to the first one that comes twice. -/
def chN (p : List GClass) : Nat → List Nat → List UInt8 → List Nat
  | 0, out, _ => out
  | n + 1, out, name => match fi p name with
    | none => out
    | some i => if i ∈ out then out else if sup p i == [] then out ++ [i] else chN p n (out ++ [i]) (sup p i)
def ch (p : List GClass) (name : List UInt8) : List Nat := chN p (p.length + 1) [] name

theorem nodup_len : ∀ (L : Nat) (l : List Nat), l.Nodup → (∀ x ∈ l, x < L) → l.length ≤ L
  | 0, l, _, h => by
    cases l with
    | nil => exact Nat.le_refl _
    | cons x l => have := h x (by simp); omega
  | L + 1, l, hn, h => by
    have h1 := nodup_len L (l.erase L) (hn.erase L) (fun x hx => by
      have := (hn.mem_erase_iff.1 hx)
      have := h x this.2
      omega)
    by_cases hm : L ∈ l
    · have := List.length_erase_of_mem hm; omega
    · rw [List.erase_of_not_mem hm] at h1; omega

/-- What holds on the way up. -/
structure Way (p : List GClass) (out : List Nat) (name : List UInt8) : Prop where
  nd : out.Nodup
  lt : ∀ x ∈ out, x < p.length
  nx : ∀ x ∈ out, sup p x ≠ [] ∧ (sup p x = name ∨ ∃ j, fi p (sup p x) = some j ∧ j ∈ out)
  own : ∀ x ∈ out, ∃ nm, fi p nm = some x

theorem Way.nil (p : List GClass) (name : List UInt8) : Way p [] name := ⟨List.nodup_nil, by simp, by simp, by simp⟩
theorem Way.snoc {p : List GClass} {out : List Nat} {name : List UInt8} {i : Nat} (h : Way p out name) (hf : fi p name = some i) (hi : i ∉ out) (hs : sup p i ≠ []) : Way p (out ++ [i]) (sup p i) := by
  refine ⟨?_, fun x hx => ?_, fun x hx => ?_, fun x hx => ?_⟩
  · refine List.nodup_append.2 ⟨h.nd, by simp, fun a ha b hb => ?_⟩
    simp at hb; subst hb; rintro rfl; exact hi ha
  · rcases List.mem_append.1 hx with hx | hx
    · exact h.lt x hx
    · simp at hx; subst hx; exact fi_lt hf
  · rcases List.mem_append.1 hx with hx | hx
    · obtain ⟨h1, h2⟩ := h.nx x hx
      refine ⟨h1, .inr ?_⟩
      rcases h2 with h2 | ⟨j, h2, h3⟩
      · exact ⟨i, by rw [h2]; exact hf, by simp⟩
      · exact ⟨j, h2, by simp [h3]⟩
    · simp at hx; subst hx; exact ⟨hs, .inl rfl⟩
  · rcases List.mem_append.1 hx with hx | hx
    · exact h.own x hx
    · simp at hx; subst hx; exact ⟨name, hf⟩

/-- A set of classes that one does not leave upwards. -/
def Shut (p : List GClass) (S : List Nat) : Prop := ∀ x ∈ S, sup p x ≠ [] → ∀ j, fi p (sup p x) = some j → j ∈ S
theorem upN_shut {p : List GClass} {S : List Nat} (h : Shut p S) : ∀ (n : Nat) (name : List UInt8), (∀ j, fi p name = some j → j ∈ S) → ∀ x ∈ upN p n name, x ∈ S
  | 0, name, _, x, hx => by simp [upN] at hx
  | n + 1, name, hs, x, hx => by
    simp only [upN] at hx
    cases hf : fi p name with
    | none => rw [hf] at hx; simp at hx
    | some i =>
      rw [hf] at hx
      have hi := hs i hf
      simp only at hx
      split at hx
      · simp at hx; subst hx; exact hi
      · rename_i he
        rcases List.mem_cons.1 hx with rfl | hx
        · exact hi
        · exact upN_shut h n _ (fun j hj => h i hi (by simpa using he) j hj) x hx
/-- .. where each has one above it: the walk never ends. -/
theorem upN_round {p : List GClass} {S : List Nat} (h : ∀ x ∈ S, sup p x ≠ [] ∧ ∃ j, fi p (sup p x) = some j ∧ j ∈ S) : ∀ (n : Nat) (name : List UInt8) (i : Nat), fi p name = some i → i ∈ S → (upN p n name).length = n
  | 0, name, i, _, _ => rfl
  | n + 1, name, i, hf, hi => by
    obtain ⟨h1, j, h2, h3⟩ := h i hi
    simp only [upN, hf]
    rw [if_neg (by simpa using h1)]
    simp [upN_round h n _ j h2 h3]

/-- Did the chain end because one came twice? -/
def back (p : List GClass) (l : List Nat) : Bool := match l.getLast? with
  | none => false
  | some i => !(sup p i == []) && (match fi p (sup p i) with | some j => decide (j ∈ l) | none => false)

/-- **The walk and the chain.** -/
theorem upN_chN {p : List GClass} : ∀ (n : Nat) (out : List Nat) (name : List UInt8), n + out.length = p.length + 1 → Way p out name → (out = [] ∨ ∃ x, out.getLast? = some x ∧ sup p x = name) →
    ∃ R, out ++ upN p n name = chN p n out name ++ R ∧ (∀ x ∈ R, x ∈ chN p n out name) ∧ (∀ x ∈ out, x ∈ chN p n out name) ∧ (∀ j, fi p name = some j → j ∈ chN p n out name) ∧ Shut p (chN p n out name) ∧ (chN p n out name).Nodup ∧ (∀ x ∈ chN p n out name, x < p.length ∧ ∃ nm, fi p nm = some x) ∧
      (back p (chN p n out name) = decide ((upN p n name).length = n))
  | 0, out, name, hn, hw, hl => by
    exfalso
    have := nodup_len p.length out hw.nd hw.lt
    omega
  | n + 1, out, name, hn, hw, hl => by
    have hlen := nodup_len p.length out hw.nd hw.lt
    cases hf : fi p name with
    | none =>
      simp only [upN, chN, hf]
      refine ⟨[], by simp, by simp, fun x hx => hx, by simp, fun x hx hne j hj => ?_, hw.nd, fun x hx => ⟨hw.lt x hx, hw.own x hx⟩, ?_⟩
      · rcases (hw.nx x hx).2 with h1 | ⟨j', h1, h2⟩
        · rw [h1, hf] at hj; cases hj
        · rw [h1] at hj; cases hj; exact h2
      · have : back p out = false := by
          unfold back
          rcases hl with rfl | ⟨x, h1, h2⟩
          · rfl
          · rw [h1]; simp only [h2, hf, Bool.and_false]
        rw [this]; simp
    | some i =>
      simp only [upN, chN, hf]
      by_cases hi : i ∈ out
      · rw [if_pos hi]
        have hround : ∀ x ∈ out, sup p x ≠ [] ∧ ∃ j, fi p (sup p x) = some j ∧ j ∈ out := by
          intro x hx
          obtain ⟨h1, h2⟩ := hw.nx x hx
          refine ⟨h1, ?_⟩
          rcases h2 with h2 | h2
          · exact ⟨i, by rw [h2]; exact hf, hi⟩
          · exact h2
        have hshut : Shut p out := fun x hx _ j hj => by
          obtain ⟨_, j', h1, h2⟩ := hround x hx
          rw [h1] at hj; cases hj; exact h2
        have hsub := upN_shut hshut (n + 1) name (fun j hj => by rw [hf] at hj; cases hj; exact hi)
        have hfull := upN_round hround (n + 1) name i hf hi
        simp only [upN, hf] at hsub hfull
        refine ⟨_, rfl, hsub, fun x hx => hx, fun j hj => by cases hj; exact hi, hshut, hw.nd, fun x hx => ⟨hw.lt x hx, hw.own x hx⟩, ?_⟩
        rw [hfull]
        have : back p out = true := by
          unfold back
          rcases hl with rfl | ⟨x, h1, h2⟩
          · simp at hi
          · have hx : x ∈ out := List.mem_of_getLast? h1
            rw [h1]
            simp only [h2, hf, hi, decide_true, Bool.and_true]
            have := (hw.nx x hx).1
            rw [h2] at this
            simpa using this
        rw [this]; simp
      · rw [if_neg hi]
        by_cases hs : (sup p i == []) = true
        · rw [if_pos hs, if_pos hs]
          have hs' : sup p i = [] := by simpa using hs
          have hw2 : (out ++ [i]).Nodup := List.nodup_append.2 ⟨hw.nd, by simp, fun a ha b hb => by
            simp at hb; subst hb; rintro rfl; exact hi ha⟩
          have hlt2 : ∀ x ∈ out ++ [i], x < p.length := fun x hx => by
            rcases List.mem_append.1 hx with hx | hx
            · exact hw.lt x hx
            · simp at hx; subst hx; exact fi_lt hf
          have hlen2 := nodup_len p.length _ hw2 hlt2
          refine ⟨[], by simp, by simp, fun x hx => by simp [hx], fun j hj => by cases hj; simp, fun x hx hne j hj => ?_, hw2, fun x hx => ⟨hlt2 x hx, ?_⟩, ?_⟩
          · rcases List.mem_append.1 hx with hx | hx
            · rcases (hw.nx x hx).2 with h1 | ⟨j', h1, h2⟩
              · rw [h1, hf] at hj; cases hj; simp
              · rw [h1] at hj; cases hj; simp [h2]
            · simp at hx; subst hx; exact absurd hs' hne
          · rcases List.mem_append.1 hx with hx | hx
            · exact hw.own x hx
            · simp at hx; subst hx; exact ⟨name, hf⟩
          · have : back p (out ++ [i]) = false := by
              unfold back; simp [hs']
            rw [this]
            simp at hlen2
            simp; omega
        · rw [if_neg hs, if_neg hs]
          have hs' : sup p i ≠ [] := by simpa using hs
          obtain ⟨R, k1, k2, k3, k4, k5, k6, k7, k8⟩ := upN_chN n (out ++ [i]) (sup p i) (by simp; omega) (hw.snoc hf hi hs') (.inr ⟨i, by simp, rfl⟩)
          refine ⟨R, by rw [← k1]; simp, k2, fun x hx => k3 x (by simp [hx]), fun j hj => by cases hj; exact k3 i (by simp), k5, k6, k7, ?_⟩
          rw [k8]; simp
/-- The facts about a name's chain. -/
theorem ch_facts (p : List GClass) (name : List UInt8) : ∃ R, upN p (p.length + 1) name = ch p name ++ R ∧ (∀ x ∈ R, x ∈ ch p name) ∧ (∀ j, fi p name = some j → j ∈ ch p name) ∧ Shut p (ch p name) ∧ (ch p name).Nodup ∧ (∀ x ∈ ch p name, x < p.length ∧ ∃ nm, fi p nm = some x) ∧
    (back p (ch p name) = decide ((upN p (p.length + 1) name).length = p.length + 1)) := by
  obtain ⟨R, k1, k2, k3, k4, k5, k6, k7, k8⟩ := upN_chN (p.length + 1) [] name (by simp) (Way.nil p name) (.inl rfl)
  exact ⟨R, by unfold ch; simpa using k1, k2, k4, k5, k6, k7, k8⟩
theorem mem_up {p : List GClass} {name : List UInt8} {x : Nat} : x ∈ upN p (p.length + 1) name ↔ x ∈ ch p name := by
  obtain ⟨R, k1, k2, _⟩ := ch_facts p name
  rw [k1]
  constructor
  · intro h
    rcases List.mem_append.1 h with h | h
    · exact h
    · exact k2 x h
  · intro h; simp [h]

/-! ### Chains, by the program and by the document. -/
theorem idxI_L {l : List Int} (a : Int) (hp : l.length < 9223372036854775806) : ∀ (n k : Nat), n + k = l.length + 1 → k ≤ l.length →
    ∃ r, slices_Index_int_L1 l a n (k : Int) = some r ∧ ((∃ v : Int, r = .stop v ∧ 0 ≤ v ∧ a ∈ l.drop k) ∨ (r = .next () ∧ a ∉ l.drop k))
  | 0, k, h, hk => by omega
  | n + 1, k, h, hk => by
    simp only [slices_Index_int_L1]
    by_cases hlt : k < l.length
    · rw [if_pos (by simpa using hlt), idx_lt hlt, List.drop_eq_getElem_cons hlt]
      simp only [obs]
      by_cases hc : (a == l[k]) = true
      · rw [if_pos hc]
        have hc' : a = l[k] := by simpa using hc
        exact ⟨_, rfl, .inl ⟨_, rfl, by omega, by rw [hc']; exact List.mem_cons_self⟩⟩
      · rw [if_neg hc, w64_succ hlt (by omega)]
        obtain ⟨r, h1, h2⟩ := idxI_L a hp n (k + 1) (by omega) (by omega)
        refine ⟨r, h1, ?_⟩
        have hne : a ≠ l[k] := by simpa using hc
        rcases h2 with ⟨v, h3, h4, h5⟩ | ⟨h3, h4⟩
        · exact .inl ⟨v, h3, h4, List.mem_cons_of_mem _ h5⟩
        · exact .inr ⟨h3, fun hm => (List.mem_cons.1 hm).elim hne h4⟩
    · rw [if_neg (by simpa using hlt), List.drop_eq_nil_of_le (by omega)]
      exact ⟨_, rfl, .inr ⟨rfl, by simp⟩⟩
theorem contains_eq {l : List Int} (hp : l.length < 9223372036854775806) (a : Int) : slices_Contains_int l a = some (decide (a ∈ l)) := by
  unfold slices_Contains_int slices_Index_int
  obtain ⟨r, h1, h2⟩ := idxI_L a hp (l.length + 1) 0 (by omega) (by omega)
  rw [show (((l.length : Int) : Int) - (0)).toNat + 1 = l.length + 1 by omega, show (0 : Int) = ((0 : Nat) : Int) from rfl, h1]
  rcases h2 with ⟨v, rfl, h3, h4⟩ | ⟨rfl, h4⟩
  · simp only [obs, Ctl.elim]
    simp only [List.drop_zero] at h4
    simp [h4, h3]
  · simp only [obs, Ctl.elim]
    simp only [List.drop_zero] at h4
    simp [h4]
theorem mem_cast {i : Nat} {l : List Nat} : ((i : Int) ∈ l.map Int.ofNat) ↔ i ∈ l := by
  rw [List.mem_map]
  constructor
  · rintro ⟨j, h1, h2⟩
    have : j = i := Int.ofNat.inj h2
    exact this ▸ h1
  · intro h; exact ⟨i, h, rfl⟩

theorem chain_runs {p : List GClass} (hp : p.length ≤ 1000000) : ∀ (n : Nat) (out : List Nat) (name : List UInt8), n + out.length = p.length + 1 →
    ∃ r, runs above_Chain_B1 ((upN p n name).map Int.ofNat) (out.map Int.ofNat) = some r ∧ Ctl.elim r (fun x => x) (fun x => x) = (chN p n out name).map Int.ofNat
  | 0, out, name, _ => ⟨_, rfl, rfl⟩
  | n + 1, out, name, hn => by
    have hout : (out.map Int.ofNat).length < 9223372036854775806 := by simp; omega
    have hroom : room (((out.map Int.ofNat).length : Int) + (([(0 : Int)].length : Nat) : Int)) 8 = some () := room_ok (by simp; omega)
    simp only [upN, chN]
    cases hf : fi p name with
    | none => exact ⟨_, rfl, rfl⟩
    | some i =>
      simp only
      have hstep : ∀ rest, runs above_Chain_B1 (((i : Nat) :: rest).map Int.ofNat) (out.map Int.ofNat) = if i ∈ out then some (.stop (out.map Int.ofNat)) else runs above_Chain_B1 (rest.map Int.ofNat) ((out ++ [i]).map Int.ofNat) := by
        intro rest
        simp only [List.map_cons, runs, above_Chain_B1]
        rw [contains_eq hout]
        simp only [obs]
        by_cases hi : i ∈ out
        · have : Int.ofNat i ∈ out.map Int.ofNat := mem_cast.2 hi
          rw [if_pos hi, if_pos (by simpa using this)]
          rfl
        · have hni : ¬ Int.ofNat i ∈ out.map Int.ofNat := fun h => hi (mem_cast.1 h)
          rw [if_neg hi, if_neg (by simpa using hni)]
          rw [show (([Int.ofNat i].length : Nat) : Int) = (([(0 : Int)].length : Nat) : Int) from rfl, hroom]
          simp [obs, Ctl.elim]
      by_cases hi : i ∈ out
      · rw [if_pos hi]
        split
        · rw [hstep, if_pos hi]; exact ⟨_, rfl, rfl⟩
        · rw [hstep, if_pos hi]; exact ⟨_, rfl, rfl⟩
      · rw [if_neg hi]
        by_cases hs : (sup p i == []) = true
        · rw [if_pos hs, if_pos hs, hstep, if_neg hi]
          exact ⟨_, rfl, rfl⟩
        · rw [if_neg hs, if_neg hs, hstep, if_neg hi]
          exact chain_runs hp n (out ++ [i]) (sup p i) (by simp; omega)
theorem above_Chain_eq {p : List GClass} (hp : p.length ≤ 1000000) (name : List UInt8) : above_Chain p name = some ((ch p name).map Int.ofNat) := by
  unfold above_Chain above_up
  simp only [obs]
  rw [itR_up_eq (by omega)]
  simp only [obs]
  obtain ⟨r, h1, h2⟩ := chain_runs hp (p.length + 1) [] name (by simp)
  rw [show ([] : List Int) = ([] : List Nat).map Int.ofNat from rfl, h1]
  unfold ch
  rw [← h2]
  cases r <;> rfl
theorem ch_len (p : List GClass) (name : List UInt8) : (ch p name).length ≤ p.length := by
  obtain ⟨_, _, _, _, _, k6, k7, _⟩ := ch_facts p name
  exact nodup_len _ _ k6 (fun x hx => (k7 x hx).1)
theorem ch_ne {p : List GClass} {name : List UInt8} {i : Nat} (h : fi p name = some i) : ch p name ≠ [] := by
  obtain ⟨_, _, _, k4, _⟩ := ch_facts p name
  intro e
  have := k4 i h
  rw [e] at this; simp at this

/-! ### Which program's chains go round. -/
def cyc (p : List GClass) (c : GClass) : Bool := decide ((upN p (p.length + 1) c.fName).length = p.length + 1)
def chk (p : List GClass) : GFault := match p.find? (cyc p) with | some c => { fErr := 9, fAt := c.fAt } | none => { fErr := 0, fAt := 0 }
theorem upN_le (p : List GClass) : ∀ (n : Nat) (name : List UInt8), (upN p n name).length ≤ n
  | 0, name => by simp [upN]
  | n + 1, name => by
    simp only [upN]
    cases fi p name with
    | none => simp
    | some i =>
      simp only
      split
      · simp
      · have := upN_le p n (sup p i); simp; omega
theorem count_runs : ∀ (l : List Int) (k : Nat), k + l.length < 9223372036854775806 → runs above_Check_B2 l (k : Int) = some (.next ((k + l.length : Nat) : Int))
  | [], k, _ => rfl
  | x :: l, k, h => by
    simp only [runs, above_Check_B2, obs]
    simp only [List.length_cons] at h
    rw [show w_i64 ((k : Int) + 1) = ((k + 1 : Nat) : Int) by rw [w64 (by omega) (by omega)]; omega]
    show runs above_Check_B2 l ((k + 1 : Nat) : Int) = _
    rw [count_runs l (k + 1) (by omega)]
    simp only [List.length_cons]
    congr 3; omega
theorem above_Check_L {p : List GClass} (hp : p.length ≤ 1000000) : ∀ (n k : Nat), n + k = p.length + 1 → k ≤ p.length →
    above_Check_L1 p n (k : Int) = some (match (p.drop k).find? (cyc p) with | some c => .stop { fErr := 9, fAt := c.fAt } | none => .next ())
  | 0, k, h, hk => by omega
  | n + 1, k, h, hk => by
    simp only [above_Check_L1]
    by_cases hlt : k < p.length
    · rw [if_pos (by simpa using hlt), idx_lt hlt, List.drop_eq_getElem_cons hlt]
      simp only [obs, above_up, itR_up_eq (p := p) (by omega)]
      have hle := upN_le p (p.length + 1) p[k].fName
      have hc := count_runs ((upN p (p.length + 1) p[k].fName).map Int.ofNat) 0 (by simp; omega)
      rw [show (0 : Int) = ((0 : Nat) : Int) from rfl, hc]
      simp only [obs, Ctl.elim, List.find?_cons]
      have hcy : cyc p p[k] = decide ((upN p (p.length + 1) p[k].fName).length = p.length + 1) := rfl
      by_cases hy : (upN p (p.length + 1) p[k].fName).length = p.length + 1
      · rw [if_pos (by simp; omega), hcy, decide_eq_true hy]
      · rw [if_neg (by simp; omega), hcy, decide_eq_false hy, w64_succ hlt (by omega)]
        exact above_Check_L hp n (k + 1) (by omega) (by omega)
    · rw [if_neg (by simpa using hlt), List.drop_eq_nil_of_le (by omega)]
      rfl
theorem above_Check_eq {p : List GClass} (hp : p.length ≤ 1000000) : above_Check p = some (chk p) := by
  unfold above_Check
  have h := above_Check_L hp (p.length + 1) 0 (by omega) (by omega)
  rw [show (((p.length : Int) : Int) - (0)).toNat + 1 = p.length + 1 by omega, show (0 : Int) = ((0 : Nat) : Int) from rfl, h]
  simp only [obs, List.drop_zero]
  unfold chk
  cases p.find? (cyc p) <;> rfl

/-! ### Below, and where two meet. -/
theorem below_runs (y : Int) : ∀ (l : List Int), ∃ r, runs (above_Below_B1 y) l () = some r ∧ ((r = .stop () ∧ y ∈ l) ∨ (r = .next () ∧ y ∉ l))
  | [] => ⟨_, rfl, .inr ⟨rfl, by simp⟩⟩
  | x :: l => by
    simp only [runs, above_Below_B1]
    by_cases hc : (x == y) = true
    · rw [if_pos hc]
      have hc' : x = y := by simpa using hc
      exact ⟨_, rfl, .inl ⟨rfl, by rw [hc']; exact List.mem_cons_self⟩⟩
    · rw [if_neg hc]
      have hne : y ≠ x := fun e => hc (by simp [e])
      obtain ⟨r, h1, h2⟩ := below_runs y l
      refine ⟨r, h1, ?_⟩
      rcases h2 with ⟨h3, h4⟩ | ⟨h3, h4⟩
      · exact .inl ⟨h3, List.mem_cons_of_mem _ h4⟩
      · exact .inr ⟨h3, fun hm => (List.mem_cons.1 hm).elim hne h4⟩
/-- Is class `b` at or above class `a`? -/
def bel (p : List GClass) (a b : List UInt8) : Bool := match fi p b with | some j => decide (j ∈ ch p a) | none => false
theorem fnd_mem {p : List GClass} {b : List UInt8} (l : List Nat) : decide (fnd p b ∈ l.map Int.ofNat) = match fi p b with | some j => decide (j ∈ l) | none => false := by
  cases hf : fi p b with
  | none =>
    rw [fnd_none hf]
    simp only [decide_eq_false_iff_not]
    intro h
    obtain ⟨j, _, hj⟩ := List.mem_map.1 h
    have : (0 : Int) ≤ Int.ofNat j := Int.natCast_nonneg j
    omega
  | some j =>
    rw [fnd_some hf]
    simp only [mem_cast]
theorem above_Below_eq {p : List GClass} (hp : p.length ≤ 1000000) (a b : List UInt8) : above_Below p a b = some (bel p a b) := by
  unfold above_Below above_up
  rw [table_Find_eq (by omega)]
  simp only [obs, itR_up_eq (p := p) (by omega)]
  obtain ⟨r, h1, h2⟩ := below_runs (fnd p b) ((upN p (p.length + 1) a).map Int.ofNat)
  rw [h1]
  have hb : bel p a b = decide (fnd p b ∈ (upN p (p.length + 1) a).map Int.ofNat) := by
    rw [fnd_mem]
    unfold bel
    cases fi p b with
    | none => rfl
    | some j => simp only [mem_up]
  rcases h2 with ⟨rfl, h3⟩ | ⟨rfl, h3⟩
  · rw [hb, decide_eq_true h3]; rfl
  · rw [hb, decide_eq_false h3]; rfl
/-- Where two meet. -/
def meet (p : List GClass) (a b : List UInt8) : List UInt8 := match (ch p a).find? (fun k => decide (k ∈ ch p b)) with | some k => (match p[k]? with | some c => c.fName | none => []) | none => []
theorem meet_runs {p : List GClass} (hp : p.length ≤ 1000000) (b : List UInt8) : ∀ (l : List Nat), (∀ x ∈ l, x < p.length) → ∃ r, runs (above_Meet_B1 p b) (l.map Int.ofNat) () = some r ∧
    r = match l.find? (fun k => decide (k ∈ ch p b)) with | some k => .stop (match p[k]? with | some c => c.fName | none => []) | none => .next ()
  | [], _ => ⟨_, rfl, rfl⟩
  | x :: l, hl => by
    have hx := hl x (by simp)
    have hcl : ((ch p b).map Int.ofNat).length < 9223372036854775806 := by have := ch_len p b; simp; omega
    simp only [List.map_cons, runs, above_Meet_B1, above_Chain_eq hp, obs, contains_eq hcl, List.find?_cons]
    by_cases hm : x ∈ ch p b
    · have h1 : Int.ofNat x ∈ (ch p b).map Int.ofNat := mem_cast.2 hm
      have hidx : idx p (Int.ofNat x) = some p[x] := idx_lt hx
      rw [if_pos (by simpa using h1), hidx, decide_eq_true hm]
      simp only [obs, Ctl.elim, List.getElem?_eq_getElem hx]
      exact ⟨_, rfl, rfl⟩
    · have h1 : ¬ Int.ofNat x ∈ (ch p b).map Int.ofNat := fun h => hm (mem_cast.1 h)
      rw [if_neg (by simpa using h1), decide_eq_false hm]
      simp only [obs, Ctl.elim]
      exact meet_runs hp b l (fun y hy => hl y (List.mem_cons_of_mem _ hy))
theorem find_app {α : Type} {q : α → Bool} {l R : List α} (h : ∀ x ∈ R, x ∈ l) : (l ++ R).find? q = l.find? q := by
  rw [List.find?_append]
  cases hl : l.find? q with
  | some x => rfl
  | none =>
    show R.find? q = none
    rw [List.find?_eq_none] at hl ⊢
    exact fun x hx => hl x (h x hx)
theorem above_Meet_eq {p : List GClass} (hp : p.length ≤ 1000000) (a b : List UInt8) : above_Meet p a b = some (meet p a b) := by
  unfold above_Meet above_up
  simp only [obs, itR_up_eq (p := p) (by omega)]
  obtain ⟨R, k1, k2, _, _, _, k7, _⟩ := ch_facts p a
  obtain ⟨r, h1, h2⟩ := meet_runs hp b (upN p (p.length + 1) a) (fun x hx => (k7 x (mem_up.1 hx)).1)
  rw [h1]
  unfold meet
  rw [k1, find_app k2] at h2
  rw [h2]
  cases (ch p a).find? (fun k => decide (k ∈ ch p b)) <;> rfl

theorem bel_trans {p : List GClass} {a b c : List UInt8} (h1 : bel p a b = true) (h2 : bel p b c = true) : bel p a c = true := by
  unfold bel at h1 h2 ⊢
  obtain ⟨_, _, _, _, k5, _⟩ := ch_facts p a
  cases hb : fi p b with
  | none => rw [hb] at h1; cases h1
  | some j =>
    rw [hb] at h1
    have hj : j ∈ ch p a := of_decide_eq_true h1
    cases hc : fi p c with
    | none => rw [hc] at h2; cases h2
    | some k =>
      rw [hc] at h2
      have hk : k ∈ ch p b := of_decide_eq_true h2
      exact decide_eq_true (upN_shut k5 _ b (fun j' hj' => by rw [hb] at hj'; cases hj'; exact hj) k (mem_up.2 hk))
theorem bel_self (p : List GClass) (a : List UInt8) : bel p a a = decide (((ch p a).map Int.ofNat).length > (0 : Int)) := by
  unfold bel
  cases hf : fi p a with
  | some i =>
    obtain ⟨_, _, _, k4, _⟩ := ch_facts p a
    have := List.length_pos_iff.2 (ch_ne hf)
    simp only [decide_eq_true (k4 i hf), List.length_map]
    symm; simp; omega
  | none =>
    have : ch p a = [] := by unfold ch chN; rw [hf]
    rw [this]; rfl
theorem meet_bel {p : List GClass} {a b : List UInt8} (h : meet p a b ≠ []) : bel p a (meet p a b) = true ∧ bel p b (meet p a b) = true := by
  unfold meet at h ⊢
  cases hf : (ch p a).find? (fun k => decide (k ∈ ch p b)) with
  | none => rw [hf] at h; exact absurd rfl h
  | some k =>
    have h1 := List.mem_of_find?_eq_some hf
    have h2 : k ∈ ch p b := of_decide_eq_true (List.find?_some (p := fun k => decide (k ∈ ch p b)) hf)
    obtain ⟨_, _, _, _, _, _, k7, _⟩ := ch_facts p a
    obtain ⟨hlt, nm, hnm⟩ := k7 k h1
    obtain ⟨c, hc, hcn⟩ := fi_spec hnm
    simp only [hc]
    have : fi p c.fName = some k := by rw [hcn]; exact hnm
    unfold bel
    rw [this]
    exact ⟨decide_eq_true h1, decide_eq_true h2⟩
theorem upN_fi {p : List GClass} {a b : List UInt8} (h : fi p a = fi p b) : ∀ n, upN p n a = upN p n b
  | 0 => rfl
  | n + 1 => by simp only [upN, h]
theorem upN_more {p : List GClass} : ∀ (n : Nat) (name : List UInt8), (upN p n name).length < n → upN p (n + 1) name = upN p n name
  | 0, name, h => by simp at h
  | n + 1, name, h => by
    simp only [upN] at h
    cases hf : fi p name with
    | none => simp only [upN, hf]
    | some i =>
      rw [hf] at h
      simp only at h
      by_cases hs : (sup p i == []) = true
      · simp only [upN, hf, hs, if_true]
      · rw [if_neg hs] at h
        simp only [List.length_cons] at h
        have ih := upN_more (p := p) n (sup p i) (by omega)
        rw [show upN p (n + 1 + 1) name = (if (sup p i == []) = true then [i] else i :: upN p (n + 1) (sup p i)) by simp only [upN, hf], show upN p (n + 1) name = (if (sup p i == []) = true then [i] else i :: upN p n (sup p i)) by simp only [upN, hf], ih]
theorem upN_later {p : List GClass} : ∀ (n : Nat) (name nm : List UInt8) (k : Nat), (upN p n name).length < n → k ∈ upN p n name → fi p nm = some k → fi p name ≠ some k → (upN p n nm).length < (upN p n name).length
  | 0, name, nm, k, h, _, _, _ => by simp at h
  | n + 1, name, nm, k, h, hk, hnm, hne => by
    simp only [upN] at h hk
    cases hf : fi p name with
    | none => rw [hf] at hk; simp at hk
    | some i =>
      have hik : i ≠ k := fun e => hne (by rw [hf, e])
      rw [hf] at h hk
      simp only at h hk
      by_cases hs : (sup p i == []) = true
      · rw [if_pos hs] at hk
        simp at hk; exact absurd hk.symm hik
      · rw [if_neg hs] at h hk
        simp only [List.length_cons] at h
        have hlt : (upN p n (sup p i)).length < n := by omega
        have hk2 : k ∈ upN p n (sup p i) := (List.mem_cons.1 hk).resolve_left (fun e => hik e.symm)
        have e1 : upN p (n + 1) name = i :: upN p n (sup p i) := by simp only [upN, hf, if_neg hs]
        rw [e1]
        simp only [List.length_cons]
        by_cases he : fi p (sup p i) = some k
        · have : upN p n nm = upN p n (sup p i) := upN_fi (by rw [hnm, he]) n
          have hm := upN_more (p := p) n nm (by rw [this]; exact hlt)
          rw [hm, this]; omega
        · have ih := upN_later (p := p) n (sup p i) nm k hlt hk2 hnm he
          have hm := upN_more (p := p) n nm (by omega)
          rw [hm]; omega
theorem antisym {p : List GClass} {a b : List UInt8} (hab : a ≠ b) (h1 : bel p a b = true) (h2 : bel p b a = true) : (chk p).fErr ≠ 0 := by
  unfold bel at h1 h2
  cases hb : fi p b with
  | none => rw [hb] at h1; cases h1
  | some j =>
    cases ha : fi p a with
    | none => rw [ha] at h2; cases h2
    | some i =>
      rw [hb] at h1; rw [ha] at h2
      have hj : j ∈ upN p (p.length + 1) a := mem_up.2 (of_decide_eq_true h1)
      have hi : i ∈ upN p (p.length + 1) b := mem_up.2 (of_decide_eq_true h2)
      obtain ⟨ca, hca, hcan⟩ := fi_spec ha
      obtain ⟨cb, hcb, hcbn⟩ := fi_spec hb
      have hij : i ≠ j := by
        rintro rfl
        rw [hca] at hcb; cases hcb
        exact hab (hcan.symm.trans hcbn)
      have hfull : (upN p (p.length + 1) a).length = p.length + 1 := by
        have hle := upN_le p (p.length + 1) a
        rcases Nat.lt_or_ge (upN p (p.length + 1) a).length (p.length + 1) with hlt | hge
        · have l1 := upN_later _ a b j hlt hj hb (by rw [ha]; intro e; cases e; exact hij rfl)
          have l2 := upN_later _ b a i (by omega) hi ha (by rw [hb]; intro e; cases e; exact hij rfl)
          omega
        · omega
      have hcy : cyc p ca = true := by
        unfold cyc
        rw [hcan]
        exact decide_eq_true hfull
      have hmem : ca ∈ p := List.mem_of_getElem? hca
      unfold chk
      cases hf : p.find? (cyc p) with
      | some c => simp
      | none =>
        rw [List.find?_eq_none] at hf
        exact absurd hcy (hf ca hmem)
theorem law14_AboveOrder_true {a0 : List GClass} {a1 : A3 (List UInt8)} (_h0 : listok (fun y => goodGClass y) a0) (_h1 : strok a1.a0 ∧ strok a1.a1 ∧ strok a1.a2) : law14_AboveOrder a0 a1 = some true := by
  have haw : law14_awake = some true := by decide +kernel
  obtain ⟨a, b, c⟩ := a1
  unfold law14_AboveOrder
  by_cases hb : (decide ((a0.length : Int) > 40)) = true
  · rw [if_pos hb, haw]; rfl
  · rw [if_neg hb]
    have hl : a0.length ≤ 1000000 := by simp at hb; omega
    simp only [above_Below_eq hl, above_Chain_eq hl, above_Meet_eq hl, above_Check_eq hl, obs, haw]
    have hself := bel_self a0 a
    have h1 : (if bel a0 a b = true then if bel a0 b c = true then (if (!bel a0 a c) = true then some true else some (!(bel a0 a a == decide ((((ch a0 a).map Int.ofNat).length : Int) > 0)))) else some (!(bel a0 a a == decide ((((ch a0 a).map Int.ofNat).length : Int) > 0))) else some (!(bel a0 a a == decide ((((ch a0 a).map Int.ofNat).length : Int) > 0)))) = some false := by
      have e : (!(bel a0 a a == decide ((((ch a0 a).map Int.ofNat).length : Int) > 0))) = false := by rw [hself]; simp
      rw [e]
      by_cases hab : bel a0 a b = true
      · rw [if_pos hab]
        by_cases hbc : bel a0 b c = true
        · rw [if_pos hbc, bel_trans hab hbc]; rfl
        · rw [if_neg hbc]
      · rw [if_neg hab]
    rw [h1]
    have h2 : (if (!(meet a0 a b == [])) = true then (if (!bel a0 a (meet a0 a b)) = true then some true else some (!bel a0 b (meet a0 a b))) else some false) = some false := by
      by_cases hm : meet a0 a b = []
      · rw [hm]; rfl
      · obtain ⟨m1, m2⟩ := meet_bel hm
        rw [m1, m2, if_pos (by simpa using hm)]; rfl
    simp only [obs, Bool.false_eq_true, if_false]
    rw [h2]
    simp only [obs, Bool.false_eq_true, if_false]
    by_cases he : ((chk a0).fErr != 0) = true
    · rw [if_pos he]
    · rw [if_neg he]
      by_cases hab : (a == b) = true
      · rw [if_pos hab]
      · rw [if_neg hab]
        by_cases h3 : bel a0 a b = true
        · rw [if_neg (by simp [h3])]
          by_cases h4 : bel a0 b a = true
          · exact absurd (antisym (by simpa using hab) h3 h4) (by simpa using he)
          · rw [if_pos (by simpa using h4)]
        · rw [if_pos (by simpa using h3)]

end Go.Proofs.Ytpbbeljmmabeeaa
