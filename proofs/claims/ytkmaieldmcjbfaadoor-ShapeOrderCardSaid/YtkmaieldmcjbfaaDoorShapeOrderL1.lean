/- A part of the proof that the law ShapeOrder gives true for every input. -/
import Derived.Test.YtkmaieldmcjbfaaDoorShapeOrderA2
import Derived.Test.YtkmaieldmcjbfaaDoorShapeOrderA3
import Derived.Test.YtkmaieldmcjbfaaDoorShapeOrderT
import Derived.Test.YtkmaieldmcjbfaaDoorShapeOrderD
/- The plain law. -/
namespace Go.Proofs.YtkmaieldmcjbfaaDoor
open Go.RowKit Go.Abs
/-! ### The first class of a name. -/
def fiN : List GClass → Nat → List UInt8 → Option Nat
  | [], _, _ => none
  | c :: t, k, name => if c.fName == name then some k else fiN t (k + 1) name
def fi (p : List GClass) (name : List UInt8) : Option Nat := fiN p 0 name
def fnd (p : List GClass) (name : List UInt8) : Int := match fi p name with | some i => (i : Int) | none => -1
theorem fiN_spec : ∀ (l : List GClass) (k : Nat) (name : List UInt8) (i : Nat), fiN l k name = some i → k ≤ i ∧ ∃ c, l[i - k]? = some c ∧ c.fName = name
  | [], k, name, i, h => by simp [fiN] at h
  | c :: t, k, name, i, h => by
    simp only [fiN] at h
    split at h
    · rename_i hc
      cases h
      exact ⟨Nat.le_refl _, c, by simp, by simpa using hc⟩
    · obtain ⟨h1, c', h2, h3⟩ := fiN_spec t (k + 1) name i h
      refine ⟨by omega, c', ?_, h3⟩
      rw [show i - k = (i - (k + 1)) + 1 by omega, List.getElem?_cons_succ]
      exact h2
theorem fi_spec {p : List GClass} {name : List UInt8} {i : Nat} (h : fi p name = some i) : ∃ c, p[i]? = some c ∧ c.fName = name := by
  obtain ⟨_, c, h1, h2⟩ := fiN_spec p 0 name i h
  exact ⟨c, by simpa using h1, h2⟩
theorem fi_lt {p : List GClass} {name : List UInt8} {i : Nat} (h : fi p name = some i) : i < p.length := by
  obtain ⟨c, h1, _⟩ := fi_spec h
  exact (List.getElem?_eq_some_iff.1 h1).1
theorem fnd_some {p : List GClass} {name : List UInt8} {i : Nat} (h : fi p name = some i) : fnd p name = (i : Int) := by unfold fnd; rw [h]
theorem fnd_none {p : List GClass} {name : List UInt8} (h : fi p name = none) : fnd p name = -1 := by unfold fnd; rw [h]
/-- What a loop over a list that stops at the first hit comes to. -/
def hit (o : Option Nat) : Ctl Int Unit := match o with | some i => .stop (i : Int) | none => .next ()

theorem indexFunc_L {p : List GClass} (name : List UInt8) (hp : p.length < 9223372036854775806) : ∀ (n k : Nat), n + k = p.length + 1 → k ≤ p.length →
    slices_IndexFunc_api_Class_L1 p (fun (z1 : GClass) => table_Find_1 z1 name) n (k : Int) = some (hit (fiN (p.drop k) k name))
  | 0, k, h, hk => by omega
  | n + 1, k, h, hk => by
    simp only [slices_IndexFunc_api_Class_L1]
    by_cases hlt : k < p.length
    · rw [if_pos (by simpa using hlt), idx_lt hlt, List.drop_eq_getElem_cons hlt]
      simp only [obs, table_Find_1, fiN]
      by_cases hc : (p[k].fName == name) = true
      · rw [if_pos hc, if_pos hc]; rfl
      · rw [if_neg hc, if_neg hc, w64_succ hlt (by omega)]
        exact indexFunc_L name hp n (k + 1) (by omega) (by omega)
    · rw [if_neg (by simpa using hlt), List.drop_eq_nil_of_le (by omega)]
      rfl
theorem table_Find_eq {p : List GClass} (hp : p.length < 9223372036854775806) (name : List UInt8) : table_Find p name = some (fnd p name) := by
  unfold table_Find slices_IndexFunc_api_Class
  have h := indexFunc_L name hp (p.length + 1) 0 (by omega) (by omega)
  rw [show (((p.length : Int) : Int) - (0)).toNat + 1 = p.length + 1 by omega, show (0 : Int) = ((0 : Nat) : Int) from rfl, h]
  simp only [List.drop_zero, obs]
  unfold fnd fi hit
  cases fiN p 0 name <;> rfl

/-! ### The walk up. -/
/-- The class that stands at `i`, its name's super. -/
def sup (p : List GClass) (i : Nat) : List UInt8 := match p[i]? with | some c => c.fSuper | none => []
def upN (p : List GClass) : Nat → List UInt8 → List Nat
  | 0, _ => []
  | n + 1, name => match fi p name with
    | none => []
    | some i => if sup p i == [] then [i] else i :: upN p n (sup p i)
theorem itR_up_n_eq {p : List GClass} (hp : p.length < 9223372036854775806) : ∀ (n : Nat) (name : List UInt8), itR_up_n p n name = some ((upN p n name).map Int.ofNat)
  | 0, name => rfl
  | n + 1, name => by
    simp only [itR_up_n, upN, table_Find_eq hp, obs]
    cases hf : fi p name with
    | none => rw [fnd_none hf]; simp
    | some i =>
      rw [fnd_some hf, if_neg (by omega)]
      obtain ⟨c, hc, _⟩ := fi_spec hf
      have hidx : idx p (i : Int) = some c := by rw [idx_nat]; exact hc
      rw [hidx]
      have hs : sup p i = c.fSuper := by unfold sup; rw [hc]
      simp only [obs, hs]
      by_cases he : (c.fSuper == []) = true
      · rw [if_pos he, if_pos he]; rfl
      · rw [if_neg he, if_neg he, itR_up_n_eq hp n c.fSuper]; rfl
theorem itR_up_eq {p : List GClass} (hp : p.length < 9223372036854775806) (name : List UInt8) : itR_up p name = some ((upN p (p.length + 1) name).map Int.ofNat) := by
  unfold itR_up; rw [if_pos hp, itR_up_n_eq hp]

/-- The chain: up to the first one that comes twice. -/
def chN (p : List GClass) : Nat → List Nat → List UInt8 → List Nat
  | 0, out, _ => out
  | n + 1, out, name => match fi p name with
    | none => out
    | some i => if i ∈ out then out else if sup p i == [] then out ++ [i] else chN p n (out ++ [i]) (sup p i)
def ch (p : List GClass) (name : List UInt8) : List Nat := chN p (p.length + 1) [] name

theorem nodup_len : ∀ (L : Nat) (l : List Nat), l.Nodup → (∀ x ∈ l, x < L) → l.length ≤ L
  | 0, l, _, h => by
    cases l with
    | nil => exact Nat.le_refl _
    | cons x l => have := h x (by simp); omega
  | L + 1, l, hn, h => by
    have h1 := nodup_len L (l.erase L) (hn.erase L) (fun x hx => by
      have := (hn.mem_erase_iff.1 hx)
      have := h x this.2
      omega)
    by_cases hm : L ∈ l
    · have := List.length_erase_of_mem hm; omega
    · rw [List.erase_of_not_mem hm] at h1; omega

/-- What holds on the way up. -/
structure Way (p : List GClass) (out : List Nat) (name : List UInt8) : Prop where
  nd : out.Nodup
  lt : ∀ x ∈ out, x < p.length
  nx : ∀ x ∈ out, sup p x ≠ [] ∧ (sup p x = name ∨ ∃ j, fi p (sup p x) = some j ∧ j ∈ out)
  own : ∀ x ∈ out, ∃ nm, fi p nm = some x

theorem Way.nil (p : List GClass) (name : List UInt8) : Way p [] name := ⟨List.nodup_nil, by simp, by simp, by simp⟩
theorem Way.snoc {p : List GClass} {out : List Nat} {name : List UInt8} {i : Nat} (h : Way p out name) (hf : fi p name = some i) (hi : i ∉ out) (hs : sup p i ≠ []) : Way p (out ++ [i]) (sup p i) := by
  refine ⟨?_, fun x hx => ?_, fun x hx => ?_, fun x hx => ?_⟩
  · refine List.nodup_append.2 ⟨h.nd, by simp, fun a ha b hb => ?_⟩
    simp at hb; subst hb; rintro rfl; exact hi ha
  · rcases List.mem_append.1 hx with hx | hx
    · exact h.lt x hx
    · simp at hx; subst hx; exact fi_lt hf
  · rcases List.mem_append.1 hx with hx | hx
    · obtain ⟨h1, h2⟩ := h.nx x hx
      refine ⟨h1, .inr ?_⟩
      rcases h2 with h2 | ⟨j, h2, h3⟩
      · exact ⟨i, by rw [h2]; exact hf, by simp⟩
      · exact ⟨j, h2, by simp [h3]⟩
    · simp at hx; subst hx; exact ⟨hs, .inl rfl⟩
  · rcases List.mem_append.1 hx with hx | hx
    · exact h.own x hx
    · simp at hx; subst hx; exact ⟨name, hf⟩

/-- A set of classes that one does not leave upwards. -/
def Shut (p : List GClass) (S : List Nat) : Prop := ∀ x ∈ S, sup p x ≠ [] → ∀ j, fi p (sup p x) = some j → j ∈ S
theorem upN_shut {p : List GClass} {S : List Nat} (h : Shut p S) : ∀ (n : Nat) (name : List UInt8), (∀ j, fi p name = some j → j ∈ S) → ∀ x ∈ upN p n name, x ∈ S
  | 0, name, _, x, hx => by simp [upN] at hx
  | n + 1, name, hs, x, hx => by
    simp only [upN] at hx
    cases hf : fi p name with
    | none => rw [hf] at hx; simp at hx
    | some i =>
      rw [hf] at hx
      have hi := hs i hf
      simp only at hx
      split at hx
      · simp at hx; subst hx; exact hi
      · rename_i he
        rcases List.mem_cons.1 hx with rfl | hx
        · exact hi
        · exact upN_shut h n _ (fun j hj => h i hi (by simpa using he) j hj) x hx
/-- .. where each has one above it: the walk never ends. -/
theorem upN_round {p : List GClass} {S : List Nat} (h : ∀ x ∈ S, sup p x ≠ [] ∧ ∃ j, fi p (sup p x) = some j ∧ j ∈ S) : ∀ (n : Nat) (name : List UInt8) (i : Nat), fi p name = some i → i ∈ S → (upN p n name).length = n
  | 0, name, i, _, _ => rfl
  | n + 1, name, i, hf, hi => by
    obtain ⟨h1, j, h2, h3⟩ := h i hi
    simp only [upN, hf]
    rw [if_neg (by simpa using h1)]
    simp [upN_round h n _ j h2 h3]

/-- Did the chain end because one came twice? -/
def back (p : List GClass) (l : List Nat) : Bool := match l.getLast? with
  | none => false
  | some i => !(sup p i == []) && (match fi p (sup p i) with | some j => decide (j ∈ l) | none => false)

/-- **The walk and the chain.** -/
theorem upN_chN {p : List GClass} : ∀ (n : Nat) (out : List Nat) (name : List UInt8), n + out.length = p.length + 1 → Way p out name → (out = [] ∨ ∃ x, out.getLast? = some x ∧ sup p x = name) →
    ∃ R, out ++ upN p n name = chN p n out name ++ R ∧ (∀ x ∈ R, x ∈ chN p n out name) ∧ (∀ x ∈ out, x ∈ chN p n out name) ∧ (∀ j, fi p name = some j → j ∈ chN p n out name) ∧ Shut p (chN p n out name) ∧ (chN p n out name).Nodup ∧ (∀ x ∈ chN p n out name, x < p.length ∧ ∃ nm, fi p nm = some x) ∧
      (back p (chN p n out name) = decide ((upN p n name).length = n))
  | 0, out, name, hn, hw, hl => by
    exfalso
    have := nodup_len p.length out hw.nd hw.lt
    omega
  | n + 1, out, name, hn, hw, hl => by
    have hlen := nodup_len p.length out hw.nd hw.lt
    cases hf : fi p name with
    | none =>
      simp only [upN, chN, hf]
      refine ⟨[], by simp, by simp, fun x hx => hx, by simp, fun x hx hne j hj => ?_, hw.nd, fun x hx => ⟨hw.lt x hx, hw.own x hx⟩, ?_⟩
      · rcases (hw.nx x hx).2 with h1 | ⟨j', h1, h2⟩
        · rw [h1, hf] at hj; cases hj
        · rw [h1] at hj; cases hj; exact h2
      · have : back p out = false := by
          unfold back
          rcases hl with rfl | ⟨x, h1, h2⟩
          · rfl
          · rw [h1]; simp only [h2, hf, Bool.and_false]
        rw [this]; simp
    | some i =>
      simp only [upN, chN, hf]
      by_cases hi : i ∈ out
      · rw [if_pos hi]
        have hround : ∀ x ∈ out, sup p x ≠ [] ∧ ∃ j, fi p (sup p x) = some j ∧ j ∈ out := by
          intro x hx
          obtain ⟨h1, h2⟩ := hw.nx x hx
          refine ⟨h1, ?_⟩
          rcases h2 with h2 | h2
          · exact ⟨i, by rw [h2]; exact hf, hi⟩
          · exact h2
        have hshut : Shut p out := fun x hx _ j hj => by
          obtain ⟨_, j', h1, h2⟩ := hround x hx
          rw [h1] at hj; cases hj; exact h2
        have hsub := upN_shut hshut (n + 1) name (fun j hj => by rw [hf] at hj; cases hj; exact hi)
        have hfull := upN_round hround (n + 1) name i hf hi
        simp only [upN, hf] at hsub hfull
        refine ⟨_, rfl, hsub, fun x hx => hx, fun j hj => by cases hj; exact hi, hshut, hw.nd, fun x hx => ⟨hw.lt x hx, hw.own x hx⟩, ?_⟩
        rw [hfull]
        have : back p out = true := by
          unfold back
          rcases hl with rfl | ⟨x, h1, h2⟩
          · simp at hi
          · have hx : x ∈ out := List.mem_of_getLast? h1
            rw [h1]
            simp only [h2, hf, hi, decide_true, Bool.and_true]
            have := (hw.nx x hx).1
            rw [h2] at this
            simpa using this
        rw [this]; simp
      · rw [if_neg hi]
        by_cases hs : (sup p i == []) = true
        · rw [if_pos hs, if_pos hs]
          have hs' : sup p i = [] := by simpa using hs
          have hw2 : (out ++ [i]).Nodup := List.nodup_append.2 ⟨hw.nd, by simp, fun a ha b hb => by
            simp at hb; subst hb; rintro rfl; exact hi ha⟩
          have hlt2 : ∀ x ∈ out ++ [i], x < p.length := fun x hx => by
            rcases List.mem_append.1 hx with hx | hx
            · exact hw.lt x hx
            · simp at hx; subst hx; exact fi_lt hf
          have hlen2 := nodup_len p.length _ hw2 hlt2
          refine ⟨[], by simp, by simp, fun x hx => by simp [hx], fun j hj => by cases hj; simp, fun x hx hne j hj => ?_, hw2, fun x hx => ⟨hlt2 x hx, ?_⟩, ?_⟩
          · rcases List.mem_append.1 hx with hx | hx
            · rcases (hw.nx x hx).2 with h1 | ⟨j', h1, h2⟩
              · rw [h1, hf] at hj; cases hj; simp
              · rw [h1] at hj; cases hj; simp [h2]
            · simp at hx; subst hx; exact absurd hs' hne
          · rcases List.mem_append.1 hx with hx | hx
            · exact hw.own x hx
            · simp at hx; subst hx; exact ⟨name, hf⟩
          · have : back p (out ++ [i]) = false := by
              unfold back; simp [hs']
            rw [this]
            simp at hlen2
            simp; omega
        · rw [if_neg hs, if_neg hs]
          have hs' : sup p i ≠ [] := by simpa using hs
          obtain ⟨R, k1, k2, k3, k4, k5, k6, k7, k8⟩ := upN_chN n (out ++ [i]) (sup p i) (by simp; omega) (hw.snoc hf hi hs') (.inr ⟨i, by simp, rfl⟩)
          refine ⟨R, by rw [← k1]; simp, k2, fun x hx => k3 x (by simp [hx]), fun j hj => by cases hj; exact k3 i (by simp), k5, k6, k7, ?_⟩
          rw [k8]; simp
/-- The facts about a name's chain. -/
theorem ch_facts (p : List GClass) (name : List UInt8) : ∃ R, upN p (p.length + 1) name = ch p name ++ R ∧ (∀ x ∈ R, x ∈ ch p name) ∧ (∀ j, fi p name = some j → j ∈ ch p name) ∧ Shut p (ch p name) ∧ (ch p name).Nodup ∧ (∀ x ∈ ch p name, x < p.length ∧ ∃ nm, fi p nm = some x) ∧
    (back p (ch p name) = decide ((upN p (p.length + 1) name).length = p.length + 1)) := by
  obtain ⟨R, k1, k2, k3, k4, k5, k6, k7, k8⟩ := upN_chN (p.length + 1) [] name (by simp) (Way.nil p name) (.inl rfl)
  exact ⟨R, by unfold ch; simpa using k1, k2, k4, k5, k6, k7, k8⟩
theorem mem_up {p : List GClass} {name : List UInt8} {x : Nat} : x ∈ upN p (p.length + 1) name ↔ x ∈ ch p name := by
  obtain ⟨R, k1, k2, _⟩ := ch_facts p name
  rw [k1]
  constructor
  · intro h
    rcases List.mem_append.1 h with h | h
    · exact h
    · exact k2 x h
  · intro h; simp [h]

theorem mem_cast {i : Nat} {l : List Nat} : ((i : Int) ∈ l.map Int.ofNat) ↔ i ∈ l := by
  rw [List.mem_map]
  constructor
  · rintro ⟨j, h1, h2⟩
    have : j = i := Int.ofNat.inj h2
    exact this ▸ h1
  · intro h; exact ⟨i, h, rfl⟩

/-! ### Below, and where two meet. -/
theorem below_runs (y : Int) : ∀ (l : List Int), ∃ r, runs (above_Below_B1 y) l () = some r ∧ ((r = .stop () ∧ y ∈ l) ∨ (r = .next () ∧ y ∉ l))
  | [] => ⟨_, rfl, .inr ⟨rfl, by simp⟩⟩
  | x :: l => by
    simp only [runs, above_Below_B1]
    by_cases hc : (x == y) = true
    · rw [if_pos hc]
      have hc' : x = y := by simpa using hc
      exact ⟨_, rfl, .inl ⟨rfl, by rw [hc']; exact List.mem_cons_self⟩⟩
    · rw [if_neg hc]
      have hne : y ≠ x := fun e => hc (by simp [e])
      obtain ⟨r, h1, h2⟩ := below_runs y l
      refine ⟨r, h1, ?_⟩
      rcases h2 with ⟨h3, h4⟩ | ⟨h3, h4⟩
      · exact .inl ⟨h3, List.mem_cons_of_mem _ h4⟩
      · exact .inr ⟨h3, fun hm => (List.mem_cons.1 hm).elim hne h4⟩
/-- Is class `b` at or above class `a`? -/
def bel (p : List GClass) (a b : List UInt8) : Bool := match fi p b with | some j => decide (j ∈ ch p a) | none => false
theorem fnd_mem {p : List GClass} {b : List UInt8} (l : List Nat) : decide (fnd p b ∈ l.map Int.ofNat) = match fi p b with | some j => decide (j ∈ l) | none => false := by
  cases hf : fi p b with
  | none =>
    rw [fnd_none hf]
    simp only [decide_eq_false_iff_not]
    intro h
    obtain ⟨j, _, hj⟩ := List.mem_map.1 h
    have : (0 : Int) ≤ Int.ofNat j := Int.natCast_nonneg j
    omega
  | some j =>
    rw [fnd_some hf]
    simp only [mem_cast]
theorem above_Below_eq {p : List GClass} (hp : p.length ≤ 1000000) (a b : List UInt8) : above_Below p a b = some (bel p a b) := by
  unfold above_Below above_up
  rw [table_Find_eq (by omega)]
  simp only [obs, itR_up_eq (p := p) (by omega)]
  obtain ⟨r, h1, h2⟩ := below_runs (fnd p b) ((upN p (p.length + 1) a).map Int.ofNat)
  rw [h1]
  have hb : bel p a b = decide (fnd p b ∈ (upN p (p.length + 1) a).map Int.ofNat) := by
    rw [fnd_mem]
    unfold bel
    cases fi p b with
    | none => rfl
    | some j => simp only [mem_up]
  rcases h2 with ⟨rfl, h3⟩ | ⟨rfl, h3⟩
  · rw [hb, decide_eq_true h3]; rfl
  · rw [hb, decide_eq_false h3]; rfl

def uniq (t : GType) : Bool := decide (t.fKind = 2) && decide (t.fOwn.a0.fKind = 6)
theorem kind_Unique_eq (t : GType) : kind_Unique t = some (uniq t) := by
  unfold kind_Unique uniq
  by_cases h : t.fKind = 2
  · rw [if_pos (by simpa using h)]; simp [h]; rfl
  · rw [if_neg (by simpa using h)]; simp [h]

/-! ### What fits, and what can be given. -/
def fitN (i j : Int) (u v t : Bool) : Int := if i = 1 ∧ j = 1 then 0 else if j ≠ 2 then 14 else if i = 3 then 0 else if i ≠ 2 then 14 else if u = true ∨ v = true then 22 else if t = true then 0 else 15
def giveN (i j : Int) (u t : Bool) : Int := if i ≠ 2 ∨ j ≠ 2 then 14 else if u = false then 22 else if t = true then 0 else 15
def fitS (p : List GClass) (a b : GType) : Int := fitN a.fKind b.fKind (uniq a) (uniq b) (bel p a.fClass b.fClass)
def giveS (p : List GClass) (a b : GType) : Int := giveN a.fKind b.fKind (uniq a) (bel p a.fClass b.fClass)
theorem shape_Fits_eq {p : List GClass} (hp : p.length ≤ 1000000) (a b : GType) : shape_Fits p a b = some (fitS p a b) := by
  unfold shape_Fits fitS fitN
  rw [kind_Unique_eq, kind_Unique_eq, above_Below_eq hp]
  generalize a.fKind = i
  generalize b.fKind = j
  generalize uniq a = u
  generalize uniq b = v
  generalize bel p a.fClass b.fClass = t
  by_cases h1 : i = 1
  · subst h1
    by_cases h2 : j = 1
    · subst h2; simp [obs]
    · by_cases h3 : j = 2
      · subst h3; simp [obs]
      · simp [h2, h3, obs]
  · by_cases h2 : j = 1
    · subst h2; simp [h1, obs]
    · by_cases h3 : j = 2
      · subst h3
        by_cases h4 : i = 3
        · subst h4; simp [obs]
        · by_cases h5 : i = 2
          · subst h5; cases u <;> cases v <;> cases t <;> simp [obs]
          · simp [h1, h4, h5, obs]
      · simp [h1, h2, h3, obs]
theorem shape_Gives_eq {p : List GClass} (hp : p.length ≤ 1000000) (a b : GType) : shape_Gives p a b = some (giveS p a b) := by
  unfold shape_Gives giveS giveN
  rw [kind_Unique_eq, above_Below_eq hp]
  generalize a.fKind = i
  generalize b.fKind = j
  generalize uniq a = u
  generalize bel p a.fClass b.fClass = t
  by_cases h1 : i = 2
  · subst h1
    by_cases h2 : j = 2
    · subst h2; cases u <;> cases t <;> simp [obs]
    · simp [h2, obs]
  · simp [h1, obs]

theorem bel_trans {p : List GClass} {a b c : List UInt8} (h1 : bel p a b = true) (h2 : bel p b c = true) : bel p a c = true := by
  unfold bel at h1 h2 ⊢
  obtain ⟨_, _, _, _, k5, _⟩ := ch_facts p a
  cases hb : fi p b with
  | none => rw [hb] at h1; cases h1
  | some j =>
    rw [hb] at h1
    have hj : j ∈ ch p a := of_decide_eq_true h1
    cases hc : fi p c with
    | none => rw [hc] at h2; cases h2
    | some k =>
      rw [hc] at h2
      have hk : k ∈ ch p b := of_decide_eq_true h2
      exact decide_eq_true (upN_shut k5 _ b (fun j' hj' => by rw [hb] at hj'; cases hj'; exact hj) k (mem_up.2 hk))

theorem law19_awake_eq : law19_awake = some true := by kernel_rfl
theorem fitS_0 {p : List GClass} {a b : GType} : fitS p a b = 0 ↔ (a.fKind = 1 ∧ b.fKind = 1) ∨ (b.fKind = 2 ∧ a.fKind = 3) ∨ (b.fKind = 2 ∧ a.fKind = 2 ∧ uniq a = false ∧ uniq b = false ∧ bel p a.fClass b.fClass = true) := by
  unfold fitS fitN
  generalize a.fKind = i
  generalize b.fKind = j
  generalize uniq a = u
  generalize uniq b = v
  generalize bel p a.fClass b.fClass = t
  by_cases h1 : i = 1
  · subst h1
    by_cases h2 : j = 1
    · subst h2; simp
    · by_cases h3 : j = 2
      · subst h3; simp
      · simp [h2, h3]
  · by_cases h3 : j = 2
    · subst h3
      by_cases h4 : i = 3
      · subst h4; simp
      · by_cases h5 : i = 2
        · subst h5; cases u <;> cases v <;> cases t <;> simp
        · simp [h1, h4, h5]
    · simp [h1, h3]
theorem giveS_0 {p : List GClass} {a b : GType} : giveS p a b = 0 ↔ a.fKind = 2 ∧ b.fKind = 2 ∧ uniq a = true ∧ bel p a.fClass b.fClass = true := by
  unfold giveS giveN
  generalize a.fKind = i
  generalize b.fKind = j
  generalize uniq a = u
  generalize bel p a.fClass b.fClass = t
  by_cases h1 : i = 2
  · subst h1
    by_cases h2 : j = 2
    · subst h2; cases u <;> cases t <;> simp
    · simp [h2]
  · simp [h1]
theorem fit_trans {p : List GClass} {a b c : GType} (h1 : fitS p a b = 0) (h2 : fitS p b c = 0) : fitS p a c = 0 := by
  rw [fitS_0] at *
  rcases h1 with ⟨x, y⟩ | ⟨x, y⟩ | ⟨x, y, u, v, t⟩
  · rcases h2 with ⟨x', y'⟩ | ⟨x', y'⟩ | ⟨x', y', _⟩ <;> omega
  · rcases h2 with ⟨x', y'⟩ | ⟨x', y'⟩ | ⟨x', y', _⟩ <;> omega
  · rcases h2 with ⟨x', y'⟩ | ⟨x', y'⟩ | ⟨x', y', u', v', t'⟩
    · omega
    · omega
    · exact .inr (.inr ⟨x', y, u, v', bel_trans t t'⟩)
theorem give_fit {p : List GClass} {a b : GType} (h : giveS p a b = 0) : fitS p a b = 22 := by
  obtain ⟨h1, h2, h3, _⟩ := giveS_0.1 h
  unfold fitS fitN
  rw [h1, h2, h3]; simp
theorem give_trans {p : List GClass} {a b c : GType} (h1 : giveS p a b = 0) (h2 : giveS p b c = 0) : giveS p a c = 0 := by
  rw [giveS_0] at *
  exact ⟨h1.1, h2.2.1, h1.2.2.1, bel_trans h1.2.2.2 h2.2.2.2⟩
theorem fit_null (p : List GClass) (a : GType) : (fitS p { fKind := 3, fClass := [], fN := 0, fOwn := ⟨zGOwner, zGOwner, zGOwner, zGOwner⟩ } a == 0) = (a.fKind == 2) := by
  unfold fitS fitN
  by_cases h : a.fKind = 2
  · simp [h]
  · simp [h]
theorem law19_ShapeOrder_true {a0 : List GClass} {a1 : A3 GType} (_ : listok (fun y => goodGClass y) a0) (_ : goodGType a1.a0 ∧ goodGType a1.a1 ∧ goodGType a1.a2) : law19_ShapeOrder a0 a1 = some true := by
  unfold law19_ShapeOrder
  rw [law19_awake_eq]
  by_cases hb : (decide ((a0.length : Int) > 40)) = true
  · rw [if_pos hb]; rfl
  · rw [if_neg hb]
    have hl : a0.length ≤ 1000000 := by simp at hb; omega
    simp only [shape_Fits_eq hl, shape_Gives_eq hl, obs, fit_null]
    have t1 := fun h h' => fit_trans (p := a0) (a := a1.a0) (b := a1.a1) (c := a1.a2) h h'
    have t2 := fun h => give_fit (p := a0) (a := a1.a0) (b := a1.a1) h
    have t3 := fun h h' => give_trans (p := a0) (a := a1.a0) (b := a1.a1) (c := a1.a2) h h'
    by_cases f1 : fitS a0 a1.a0 a1.a1 = 0
    · have g1 : giveS a0 a1.a0 a1.a1 ≠ 0 := fun h => by have := t2 h; omega
      by_cases f2 : fitS a0 a1.a1 a1.a2 = 0
      · have f3 := t1 f1 f2
        simp [f1, f2, f3, g1, obs]
      · simp [f1, f2, g1, obs]
    · by_cases g1 : giveS a0 a1.a0 a1.a1 = 0
      · have f4 := t2 g1
        by_cases g2 : giveS a0 a1.a1 a1.a2 = 0
        · have g3 := t3 g1 g2
          simp [f4, g1, g2, g3, obs]
        · simp [f4, g1, g2, obs]
      · simp [f1, g1, obs]


end Go.Proofs.YtkmaieldmcjbfaaDoor
