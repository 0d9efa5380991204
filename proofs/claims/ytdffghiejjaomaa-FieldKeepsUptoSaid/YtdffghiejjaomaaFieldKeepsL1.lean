/- A part of the proof that the law FieldKeeps gives true for every input. -/
import Derived.Test.YtdffghiejjaomaaFieldKeepsA2
import Derived.Test.YtdffghiejjaomaaFieldKeepsA3
import Derived.Test.YtdffghiejjaomaaFieldKeepsT
import Derived.Test.YtdffghiejjaomaaFieldKeepsD
/- The plain law. -/
namespace Go.Proofs.Ytdffghiejjaomaa
open Go.RowKit Go.Abs
/-! ### Loops that search, loops that gather. -/
/-- The first answer among `g k`, `g (k + 1)`, .., `m` of them. -/
def frst {R : Type} (g : Nat → Option R) : Nat → Nat → Option R
  | _, 0 => none
  | k, m + 1 => match g k with
    | some r => some r
    | none => frst g (k + 1) m
def hitC {R : Type} : Option R → Ctl R Unit
  | some r => .stop r
  | none => .next ()
theorem srch {R : Type} {L : Nat → Int → Option (Ctl R Unit)} {len : Nat} {g : Nat → Option R} (hend : ∀ n, L (n + 1) (len : Int) = some (.next ()))
    (hstep : ∀ n k : Nat, k < len → L (n + 1) (k : Int) = match g k with | some r => some (.stop r) | none => L n ((k + 1 : Nat) : Int)) : ∀ m k n : Nat, k + m = len → m < n → L n (k : Int) = some (hitC (frst g k m))
  | 0, k, 0, _, h => by omega
  | 0, k, n + 1, h, _ => by rw [show k = len by omega, hend]; rfl
  | m + 1, k, 0, _, h => by omega
  | m + 1, k, n + 1, h, h' => by
    rw [hstep n k (by omega)]
    simp only [frst]
    cases g k with
    | some r => rfl
    | none => exact srch hend hstep m (k + 1) n (by omega) (by omega)
theorem srch0 {R : Type} {L : Nat → Int → Option (Ctl R Unit)} {len : Nat} {g : Nat → Option R} (hend : ∀ n, L (n + 1) (len : Int) = some (.next ()))
    (hstep : ∀ n k : Nat, k < len → L (n + 1) (k : Int) = match g k with | some r => some (.stop r) | none => L n ((k + 1 : Nat) : Int)) {n : Nat} (hn : len < n) : L n 0 = some (hitC (frst g 0 len)) :=
  srch hend hstep len 0 n (by omega) hn
theorem frst_congr {R : Type} {g g' : Nat → Option R} : ∀ (m k : Nat), (∀ j, k ≤ j → j < k + m → g j = g' j) → frst g k m = frst g' k m
  | 0, k, _ => rfl
  | m + 1, k, h => by
    simp only [frst, h k (Nat.le_refl _) (by omega)]
    cases g' k with
    | some r => rfl
    | none => exact frst_congr m (k + 1) fun j h1 h2 => h j (by omega) (by omega)
theorem frst_any {α R : Type} {g : Nat → Option R} {b : α → Bool} {r : R} (l : List α) : ∀ (m k : Nat), k + m = l.length → (∀ j x, l[j]? = some x → g j = if b x then some r else none) → frst g k m = if (l.drop k).any b then some r else none
  | 0, k, h, _ => by rw [List.drop_eq_nil_of_le (by omega)]; simp [frst]
  | m + 1, k, h, hg => by
    have hlt : k < l.length := by omega
    rw [List.drop_eq_getElem_cons hlt]
    simp only [frst, hg k l[k] (List.getElem?_eq_getElem hlt), List.any_cons]
    by_cases hb : b l[k] = true
    · simp [hb]
    · simp only [hb, Bool.false_or]
      exact frst_any l m (k + 1) (by omega) hg
theorem frst_none {R : Type} {g : Nat → Option R} : ∀ (m k : Nat), frst g k m = none → ∀ j, k ≤ j → j < k + m → g j = none
  | 0, k, _, j, h1, h2 => by omega
  | m + 1, k, h, j, h1, h2 => by
    simp only [frst] at h
    cases hg : g k with
    | some r => rw [hg] at h; cases h
    | none =>
      rw [hg] at h
      by_cases hj : j = k
      · rw [hj]; exact hg
      · exact frst_none m (k + 1) h j (by omega) (by omega)
theorem frst_some {R : Type} {g : Nat → Option R} {r : R} : ∀ (m k : Nat), frst g k m = some r → ∃ j, k ≤ j ∧ j < k + m ∧ g j = some r ∧ ∀ i, k ≤ i → i < j → g i = none
  | 0, k, h => by cases h
  | m + 1, k, h => by
    simp only [frst] at h
    cases hg : g k with
    | some r' =>
      rw [hg] at h; cases h
      exact ⟨k, Nat.le_refl _, by omega, hg, fun i h1 h2 => by omega⟩
    | none =>
      rw [hg] at h
      obtain ⟨j, h1, h2, h3, h4⟩ := frst_some m (k + 1) h
      refine ⟨j, by omega, by omega, h3, fun i h5 h6 => ?_⟩
      by_cases hi : i = k
      · rw [hi]; exact hg
      · exact h4 i (by omega) h6
/-- `m` rounds from round `k` on. -/
def itr {S : Type} (f : Nat → S → S) : Nat → Nat → S → S
  | _, 0, s => s
  | k, m + 1, s => itr f (k + 1) m (f k s)
theorem nat_cast0 : (0 : Int) = ((0 : Nat) : Int) := rfl
theorem fuelN (n : Nat) : (((n : Int) : Int) - (0)).toNat + 1 = n + 1 := by omega

/-! ### The first class of a name. -/
def fiN : List GClass → Nat → List UInt8 → Option Nat
  | [], _, _ => none
  | c :: t, k, name => if c.fName == name then some k else fiN t (k + 1) name
def fi (p : List GClass) (name : List UInt8) : Option Nat := fiN p 0 name
def fnd (p : List GClass) (name : List UInt8) : Int := match fi p name with | some i => (i : Int) | none => -1
theorem fiN_spec : ∀ (l : List GClass) (k : Nat) (name : List UInt8) (i : Nat), fiN l k name = some i → k ≤ i ∧ ∃ c, l[i - k]? = some c ∧ c.fName = name
  | [], k, name, i, h => by simp [fiN] at h
  | c :: t, k, name, i, h => by
    simp only [fiN] at h
    split at h
    · rename_i hc
      cases h
      exact ⟨Nat.le_refl _, c, by simp, by simpa using hc⟩
    · obtain ⟨h1, c', h2, h3⟩ := fiN_spec t (k + 1) name i h
      refine ⟨by omega, c', ?_, h3⟩
      rw [show i - k = (i - (k + 1)) + 1 by omega, List.getElem?_cons_succ]
      exact h2
theorem fiN_some : ∀ (l : List GClass) (k : Nat) (c : GClass), c ∈ l → ∃ i, fiN l k c.fName = some i
  | [], k, c, h => by simp at h
  | c' :: t, k, c, h => by
    simp only [fiN]
    split
    · exact ⟨k, rfl⟩
    · rename_i hc
      rcases List.mem_cons.1 h with rfl | h
      · simp at hc
      · exact fiN_some t (k + 1) c h
theorem fi_spec {p : List GClass} {name : List UInt8} {i : Nat} (h : fi p name = some i) : ∃ c, p[i]? = some c ∧ c.fName = name := by
  obtain ⟨_, c, h1, h2⟩ := fiN_spec p 0 name i h
  exact ⟨c, by simpa using h1, h2⟩
theorem fi_lt {p : List GClass} {name : List UInt8} {i : Nat} (h : fi p name = some i) : i < p.length := by
  obtain ⟨c, h1, _⟩ := fi_spec h
  exact (List.getElem?_eq_some_iff.1 h1).1
theorem fi_some {p : List GClass} {c : GClass} (h : c ∈ p) : ∃ i, fi p c.fName = some i := fiN_some p 0 c h
theorem fnd_some {p : List GClass} {name : List UInt8} {i : Nat} (h : fi p name = some i) : fnd p name = (i : Int) := by unfold fnd; rw [h]
theorem fnd_none {p : List GClass} {name : List UInt8} (h : fi p name = none) : fnd p name = -1 := by unfold fnd; rw [h]
/-- What a loop over a list that stops at the first hit comes to. -/
def hit (o : Option Nat) : Ctl Int Unit := match o with | some i => .stop (i : Int) | none => .next ()

theorem indexFunc_L {p : List GClass} (name : List UInt8) (hp : p.length < 9223372036854775806) : ∀ (n k : Nat), n + k = p.length + 1 → k ≤ p.length →
    slices_IndexFunc_api_Class_L1 p (fun (z1 : GClass) => table_Find_1 z1 name) n (k : Int) = some (hit (fiN (p.drop k) k name))
  | 0, k, h, hk => by omega
  | n + 1, k, h, hk => by
    simp only [slices_IndexFunc_api_Class_L1]
    by_cases hlt : k < p.length
    · rw [if_pos (by simpa using hlt), idx_lt hlt, List.drop_eq_getElem_cons hlt]
      simp only [obs, table_Find_1, fiN]
      by_cases hc : (p[k].fName == name) = true
      · rw [if_pos hc, if_pos hc]; rfl
      · rw [if_neg hc, if_neg hc, w64_succ hlt (by omega)]
        exact indexFunc_L name hp n (k + 1) (by omega) (by omega)
    · rw [if_neg (by simpa using hlt), List.drop_eq_nil_of_le (by omega)]
      rfl
theorem table_Find_eq {p : List GClass} (hp : p.length < 9223372036854775806) (name : List UInt8) : table_Find p name = some (fnd p name) := by
  unfold table_Find slices_IndexFunc_api_Class
  have h := indexFunc_L name hp (p.length + 1) 0 (by omega) (by omega)
  rw [show (((p.length : Int) : Int) - (0)).toNat + 1 = p.length + 1 by omega, show (0 : Int) = ((0 : Nat) : Int) from rfl, h]
  simp only [List.drop_zero, obs]
  unfold fnd fi hit
  cases fiN p 0 name <;> rfl

theorem ref13_Find_L {p : List GClass} (name : List UInt8) (hp : p.length < 9223372036854775806) : ∀ (n k : Nat), n + k = p.length + 1 → k ≤ p.length →
    ref13_Find_L1 p name n (k : Int) = some (hit (fiN (p.drop k) k name))
  | 0, k, h, hk => by omega
  | n + 1, k, h, hk => by
    simp only [ref13_Find_L1]
    by_cases hlt : k < p.length
    · rw [if_pos (by simpa using hlt), idx_lt hlt, List.drop_eq_getElem_cons hlt]
      simp only [obs, fiN]
      by_cases hc : (p[k].fName == name) = true
      · rw [if_pos hc, if_pos hc]; rfl
      · rw [if_neg hc, if_neg hc, w64_succ hlt (by omega)]
        exact ref13_Find_L name hp n (k + 1) (by omega) (by omega)
    · rw [if_neg (by simpa using hlt), List.drop_eq_nil_of_le (by omega)]
      rfl
theorem ref13_Find_eq {p : List GClass} (hp : p.length < 9223372036854775806) (name : List UInt8) : ref13_Find p name = some (fnd p name) := by
  unfold ref13_Find
  have h := ref13_Find_L name hp (p.length + 1) 0 (by omega) (by omega)
  rw [show (((p.length : Int) : Int) - (0)).toNat + 1 = p.length + 1 by omega, show (0 : Int) = ((0 : Nat) : Int) from rfl, h]
  simp only [List.drop_zero, obs]
  unfold fnd fi hit
  cases fiN p 0 name <;> rfl

/-! ### The walk up. -/
/-- The class that stands at `i`, its name's super. -/
def sup (p : List GClass) (i : Nat) : List UInt8 := match p[i]? with | some c => c.fSuper | none => []
def upN (p : List GClass) : Nat → List UInt8 → List Nat
  | 0, _ => []
  | n + 1, name => match fi p name with
    | none => []
    | some i => if sup p i == [] then [i] else i :: upN p n (sup p i)
theorem itR_up_n_eq {p : List GClass} (hp : p.length < 9223372036854775806) : ∀ (n : Nat) (name : List UInt8), itR_up_n p n name = some ((upN p n name).map Int.ofNat)
  | 0, name => rfl
  | n + 1, name => by
    simp only [itR_up_n, upN, table_Find_eq hp, obs]
    cases hf : fi p name with
    | none => rw [fnd_none hf]; simp
    | some i =>
      rw [fnd_some hf, if_neg (by omega)]
      obtain ⟨c, hc, _⟩ := fi_spec hf
      have hidx : idx p (i : Int) = some c := by rw [idx_nat]; exact hc
      rw [hidx]
      have hs : sup p i = c.fSuper := by unfold sup; rw [hc]
      simp only [obs, hs]
      by_cases he : (c.fSuper == []) = true
      · rw [if_pos he, if_pos he]; rfl
      · rw [if_neg he, if_neg he, itR_up_n_eq hp n c.fSuper]; rfl
theorem itR_up_eq {p : List GClass} (hp : p.length < 9223372036854775806) (name : List UInt8) : itR_up p name = some ((upN p (p.length + 1) name).map Int.ofNat) := by
  unfold itR_up; rw [if_pos hp, itR_up_n_eq hp]

/-- The chain: up to the first one that comes twice. -/
def chN (p : List GClass) : Nat → List Nat → List UInt8 → List Nat
  | 0, out, _ => out
  | n + 1, out, name => match fi p name with
    | none => out
    | some i => if i ∈ out then out else if sup p i == [] then out ++ [i] else chN p n (out ++ [i]) (sup p i)
def ch (p : List GClass) (name : List UInt8) : List Nat := chN p (p.length + 1) [] name

theorem nodup_len : ∀ (L : Nat) (l : List Nat), l.Nodup → (∀ x ∈ l, x < L) → l.length ≤ L
  | 0, l, _, h => by
    cases l with
    | nil => exact Nat.le_refl _
    | cons x l => have := h x (by simp); omega
  | L + 1, l, hn, h => by
    have h1 := nodup_len L (l.erase L) (hn.erase L) (fun x hx => by
      have := (hn.mem_erase_iff.1 hx)
      have := h x this.2
      omega)
    by_cases hm : L ∈ l
    · have := List.length_erase_of_mem hm; omega
    · rw [List.erase_of_not_mem hm] at h1; omega

/-- What holds on the way up. -/
structure Way (p : List GClass) (out : List Nat) (name : List UInt8) : Prop where
  nd : out.Nodup
  lt : ∀ x ∈ out, x < p.length
  nx : ∀ x ∈ out, sup p x ≠ [] ∧ (sup p x = name ∨ ∃ j, fi p (sup p x) = some j ∧ j ∈ out)
  own : ∀ x ∈ out, ∃ nm, fi p nm = some x

theorem Way.nil (p : List GClass) (name : List UInt8) : Way p [] name := ⟨List.nodup_nil, by simp, by simp, by simp⟩
theorem Way.snoc {p : List GClass} {out : List Nat} {name : List UInt8} {i : Nat} (h : Way p out name) (hf : fi p name = some i) (hi : i ∉ out) (hs : sup p i ≠ []) : Way p (out ++ [i]) (sup p i) := by
  refine ⟨?_, fun x hx => ?_, fun x hx => ?_, fun x hx => ?_⟩
  · refine List.nodup_append.2 ⟨h.nd, by simp, fun a ha b hb => ?_⟩
    simp at hb; subst hb; rintro rfl; exact hi ha
  · rcases List.mem_append.1 hx with hx | hx
    · exact h.lt x hx
    · simp at hx; subst hx; exact fi_lt hf
  · rcases List.mem_append.1 hx with hx | hx
    · obtain ⟨h1, h2⟩ := h.nx x hx
      refine ⟨h1, .inr ?_⟩
      rcases h2 with h2 | ⟨j, h2, h3⟩
      · exact ⟨i, by rw [h2]; exact hf, by simp⟩
      · exact ⟨j, h2, by simp [h3]⟩
    · simp at hx; subst hx; exact ⟨hs, .inl rfl⟩
  · rcases List.mem_append.1 hx with hx | hx
    · exact h.own x hx
    · simp at hx; subst hx; exact ⟨name, hf⟩

/-- A set of classes that one does not leave upwards. -/
def Shut (p : List GClass) (S : List Nat) : Prop := ∀ x ∈ S, sup p x ≠ [] → ∀ j, fi p (sup p x) = some j → j ∈ S
theorem upN_shut {p : List GClass} {S : List Nat} (h : Shut p S) : ∀ (n : Nat) (name : List UInt8), (∀ j, fi p name = some j → j ∈ S) → ∀ x ∈ upN p n name, x ∈ S
  | 0, name, _, x, hx => by simp [upN] at hx
  | n + 1, name, hs, x, hx => by
    simp only [upN] at hx
    cases hf : fi p name with
    | none => rw [hf] at hx; simp at hx
    | some i =>
      rw [hf] at hx
      have hi := hs i hf
      simp only at hx
      split at hx
      · simp at hx; subst hx; exact hi
      · rename_i he
        rcases List.mem_cons.1 hx with rfl | hx
        · exact hi
        · exact upN_shut h n _ (fun j hj => h i hi (by simpa using he) j hj) x hx
/-- .. where each has one above it: the walk never ends. -/
theorem upN_round {p : List GClass} {S : List Nat} (h : ∀ x ∈ S, sup p x ≠ [] ∧ ∃ j, fi p (sup p x) = some j ∧ j ∈ S) : ∀ (n : Nat) (name : List UInt8) (i : Nat), fi p name = some i → i ∈ S → (upN p n name).length = n
  | 0, name, i, _, _ => rfl
  | n + 1, name, i, hf, hi => by
    obtain ⟨h1, j, h2, h3⟩ := h i hi
    simp only [upN, hf]
    rw [if_neg (by simpa using h1)]
    simp [upN_round h n _ j h2 h3]

/-- Did the chain end because one came twice? -/
def back (p : List GClass) (l : List Nat) : Bool := match l.getLast? with
  | none => false
  | some i => !(sup p i == []) && (match fi p (sup p i) with | some j => decide (j ∈ l) | none => false)

/-- **The walk and the chain.** -/
theorem upN_chN {p : List GClass} : ∀ (n : Nat) (out : List Nat) (name : List UInt8), n + out.length = p.length + 1 → Way p out name → (out = [] ∨ ∃ x, out.getLast? = some x ∧ sup p x = name) →
    ∃ R, out ++ upN p n name = chN p n out name ++ R ∧ (∀ x ∈ R, x ∈ chN p n out name) ∧ (∀ x ∈ out, x ∈ chN p n out name) ∧ (∀ j, fi p name = some j → j ∈ chN p n out name) ∧ Shut p (chN p n out name) ∧ (chN p n out name).Nodup ∧ (∀ x ∈ chN p n out name, x < p.length ∧ ∃ nm, fi p nm = some x) ∧
      (back p (chN p n out name) = decide ((upN p n name).length = n))
  | 0, out, name, hn, hw, hl => by
    exfalso
    have := nodup_len p.length out hw.nd hw.lt
    omega
  | n + 1, out, name, hn, hw, hl => by
    have hlen := nodup_len p.length out hw.nd hw.lt
    cases hf : fi p name with
    | none =>
      simp only [upN, chN, hf]
      refine ⟨[], by simp, by simp, fun x hx => hx, by simp, fun x hx hne j hj => ?_, hw.nd, fun x hx => ⟨hw.lt x hx, hw.own x hx⟩, ?_⟩
      · rcases (hw.nx x hx).2 with h1 | ⟨j', h1, h2⟩
        · rw [h1, hf] at hj; cases hj
        · rw [h1] at hj; cases hj; exact h2
      · have : back p out = false := by
          unfold back
          rcases hl with rfl | ⟨x, h1, h2⟩
          · rfl
          · rw [h1]; simp only [h2, hf, Bool.and_false]
        rw [this]; simp
    | some i =>
      simp only [upN, chN, hf]
      by_cases hi : i ∈ out
      · rw [if_pos hi]
        have hround : ∀ x ∈ out, sup p x ≠ [] ∧ ∃ j, fi p (sup p x) = some j ∧ j ∈ out := by
          intro x hx
          obtain ⟨h1, h2⟩ := hw.nx x hx
          refine ⟨h1, ?_⟩
          rcases h2 with h2 | h2
          · exact ⟨i, by rw [h2]; exact hf, hi⟩
          · exact h2
        have hshut : Shut p out := fun x hx _ j hj => by
          obtain ⟨_, j', h1, h2⟩ := hround x hx
          rw [h1] at hj; cases hj; exact h2
        have hsub := upN_shut hshut (n + 1) name (fun j hj => by rw [hf] at hj; cases hj; exact hi)
        have hfull := upN_round hround (n + 1) name i hf hi
        simp only [upN, hf] at hsub hfull
        refine ⟨_, rfl, hsub, fun x hx => hx, fun j hj => by cases hj; exact hi, hshut, hw.nd, fun x hx => ⟨hw.lt x hx, hw.own x hx⟩, ?_⟩
        rw [hfull]
        have : back p out = true := by
          unfold back
          rcases hl with rfl | ⟨x, h1, h2⟩
          · simp at hi
          · have hx : x ∈ out := List.mem_of_getLast? h1
            rw [h1]
            simp only [h2, hf, hi, decide_true, Bool.and_true]
            have := (hw.nx x hx).1
            rw [h2] at this
            simpa using this
        rw [this]; simp
      · rw [if_neg hi]
        by_cases hs : (sup p i == []) = true
        · rw [if_pos hs, if_pos hs]
          have hs' : sup p i = [] := by simpa using hs
          have hw2 : (out ++ [i]).Nodup := List.nodup_append.2 ⟨hw.nd, by simp, fun a ha b hb => by
            simp at hb; subst hb; rintro rfl; exact hi ha⟩
          have hlt2 : ∀ x ∈ out ++ [i], x < p.length := fun x hx => by
            rcases List.mem_append.1 hx with hx | hx
            · exact hw.lt x hx
            · simp at hx; subst hx; exact fi_lt hf
          have hlen2 := nodup_len p.length _ hw2 hlt2
          refine ⟨[], by simp, by simp, fun x hx => by simp [hx], fun j hj => by cases hj; simp, fun x hx hne j hj => ?_, hw2, fun x hx => ⟨hlt2 x hx, ?_⟩, ?_⟩
          · rcases List.mem_append.1 hx with hx | hx
            · rcases (hw.nx x hx).2 with h1 | ⟨j', h1, h2⟩
              · rw [h1, hf] at hj; cases hj; simp
              · rw [h1] at hj; cases hj; simp [h2]
            · simp at hx; subst hx; exact absurd hs' hne
          · rcases List.mem_append.1 hx with hx | hx
            · exact hw.own x hx
            · simp at hx; subst hx; exact ⟨name, hf⟩
          · have : back p (out ++ [i]) = false := by
              unfold back; simp [hs']
            rw [this]
            simp at hlen2
            simp; omega
        · rw [if_neg hs, if_neg hs]
          have hs' : sup p i ≠ [] := by simpa using hs
          obtain ⟨R, k1, k2, k3, k4, k5, k6, k7, k8⟩ := upN_chN n (out ++ [i]) (sup p i) (by simp; omega) (hw.snoc hf hi hs') (.inr ⟨i, by simp, rfl⟩)
          refine ⟨R, by rw [← k1]; simp, k2, fun x hx => k3 x (by simp [hx]), fun j hj => by cases hj; exact k3 i (by simp), k5, k6, k7, ?_⟩
          rw [k8]; simp
/-- The facts about a name's chain. -/
theorem ch_facts (p : List GClass) (name : List UInt8) : ∃ R, upN p (p.length + 1) name = ch p name ++ R ∧ (∀ x ∈ R, x ∈ ch p name) ∧ (∀ j, fi p name = some j → j ∈ ch p name) ∧ Shut p (ch p name) ∧ (ch p name).Nodup ∧ (∀ x ∈ ch p name, x < p.length ∧ ∃ nm, fi p nm = some x) ∧
    (back p (ch p name) = decide ((upN p (p.length + 1) name).length = p.length + 1)) := by
  obtain ⟨R, k1, k2, k3, k4, k5, k6, k7, k8⟩ := upN_chN (p.length + 1) [] name (by simp) (Way.nil p name) (.inl rfl)
  exact ⟨R, by unfold ch; simpa using k1, k2, k4, k5, k6, k7, k8⟩
theorem mem_up {p : List GClass} {name : List UInt8} {x : Nat} : x ∈ upN p (p.length + 1) name ↔ x ∈ ch p name := by
  obtain ⟨R, k1, k2, _⟩ := ch_facts p name
  rw [k1]
  constructor
  · intro h
    rcases List.mem_append.1 h with h | h
    · exact h
    · exact k2 x h
  · intro h; simp [h]

/-! ### Chains, by the program and by the document. -/
theorem idxI_L {l : List Int} (a : Int) (hp : l.length < 9223372036854775806) : ∀ (n k : Nat), n + k = l.length + 1 → k ≤ l.length →
    ∃ r, slices_Index_int_L1 l a n (k : Int) = some r ∧ ((∃ v : Int, r = .stop v ∧ 0 ≤ v ∧ a ∈ l.drop k) ∨ (r = .next () ∧ a ∉ l.drop k))
  | 0, k, h, hk => by omega
  | n + 1, k, h, hk => by
    simp only [slices_Index_int_L1]
    by_cases hlt : k < l.length
    · rw [if_pos (by simpa using hlt), idx_lt hlt, List.drop_eq_getElem_cons hlt]
      simp only [obs]
      by_cases hc : (a == l[k]) = true
      · rw [if_pos hc]
        have hc' : a = l[k] := by simpa using hc
        exact ⟨_, rfl, .inl ⟨_, rfl, by omega, by rw [hc']; exact List.mem_cons_self⟩⟩
      · rw [if_neg hc, w64_succ hlt (by omega)]
        obtain ⟨r, h1, h2⟩ := idxI_L a hp n (k + 1) (by omega) (by omega)
        refine ⟨r, h1, ?_⟩
        have hne : a ≠ l[k] := by simpa using hc
        rcases h2 with ⟨v, h3, h4, h5⟩ | ⟨h3, h4⟩
        · exact .inl ⟨v, h3, h4, List.mem_cons_of_mem _ h5⟩
        · exact .inr ⟨h3, fun hm => (List.mem_cons.1 hm).elim hne h4⟩
    · rw [if_neg (by simpa using hlt), List.drop_eq_nil_of_le (by omega)]
      exact ⟨_, rfl, .inr ⟨rfl, by simp⟩⟩
theorem contains_eq {l : List Int} (hp : l.length < 9223372036854775806) (a : Int) : slices_Contains_int l a = some (decide (a ∈ l)) := by
  unfold slices_Contains_int slices_Index_int
  obtain ⟨r, h1, h2⟩ := idxI_L a hp (l.length + 1) 0 (by omega) (by omega)
  rw [show (((l.length : Int) : Int) - (0)).toNat + 1 = l.length + 1 by omega, show (0 : Int) = ((0 : Nat) : Int) from rfl, h1]
  rcases h2 with ⟨v, rfl, h3, h4⟩ | ⟨rfl, h4⟩
  · simp only [obs, Ctl.elim]
    simp only [List.drop_zero] at h4
    simp [h4, h3]
  · simp only [obs, Ctl.elim]
    simp only [List.drop_zero] at h4
    simp [h4]
theorem mem_cast {i : Nat} {l : List Nat} : ((i : Int) ∈ l.map Int.ofNat) ↔ i ∈ l := by
  rw [List.mem_map]
  constructor
  · rintro ⟨j, h1, h2⟩
    have : j = i := Int.ofNat.inj h2
    exact this ▸ h1
  · intro h; exact ⟨i, h, rfl⟩

theorem chain_runs {p : List GClass} (hp : p.length ≤ 1000000) : ∀ (n : Nat) (out : List Nat) (name : List UInt8), n + out.length = p.length + 1 →
    ∃ r, runs above_Chain_B1 ((upN p n name).map Int.ofNat) (out.map Int.ofNat) = some r ∧ Ctl.elim r (fun x => x) (fun x => x) = (chN p n out name).map Int.ofNat
  | 0, out, name, _ => ⟨_, rfl, rfl⟩
  | n + 1, out, name, hn => by
    have hout : (out.map Int.ofNat).length < 9223372036854775806 := by simp; omega
    have hroom : room (((out.map Int.ofNat).length : Int) + (([(0 : Int)].length : Nat) : Int)) 8 = some () := room_ok (by simp; omega)
    simp only [upN, chN]
    cases hf : fi p name with
    | none => exact ⟨_, rfl, rfl⟩
    | some i =>
      simp only
      have hstep : ∀ rest, runs above_Chain_B1 (((i : Nat) :: rest).map Int.ofNat) (out.map Int.ofNat) = if i ∈ out then some (.stop (out.map Int.ofNat)) else runs above_Chain_B1 (rest.map Int.ofNat) ((out ++ [i]).map Int.ofNat) := by
        intro rest
        simp only [List.map_cons, runs, above_Chain_B1]
        rw [contains_eq hout]
        simp only [obs]
        by_cases hi : i ∈ out
        · have : Int.ofNat i ∈ out.map Int.ofNat := mem_cast.2 hi
          rw [if_pos hi, if_pos (by simpa using this)]
          rfl
        · have hni : ¬ Int.ofNat i ∈ out.map Int.ofNat := fun h => hi (mem_cast.1 h)
          rw [if_neg hi, if_neg (by simpa using hni)]
          rw [show (([Int.ofNat i].length : Nat) : Int) = (([(0 : Int)].length : Nat) : Int) from rfl, hroom]
          simp [obs, Ctl.elim]
      by_cases hi : i ∈ out
      · rw [if_pos hi]
        split
        · rw [hstep, if_pos hi]; exact ⟨_, rfl, rfl⟩
        · rw [hstep, if_pos hi]; exact ⟨_, rfl, rfl⟩
      · rw [if_neg hi]
        by_cases hs : (sup p i == []) = true
        · rw [if_pos hs, if_pos hs, hstep, if_neg hi]
          exact ⟨_, rfl, rfl⟩
        · rw [if_neg hs, if_neg hs, hstep, if_neg hi]
          exact chain_runs hp n (out ++ [i]) (sup p i) (by simp; omega)
theorem above_Chain_eq {p : List GClass} (hp : p.length ≤ 1000000) (name : List UInt8) : above_Chain p name = some ((ch p name).map Int.ofNat) := by
  unfold above_Chain above_up
  simp only [obs]
  rw [itR_up_eq (by omega)]
  simp only [obs]
  obtain ⟨r, h1, h2⟩ := chain_runs hp (p.length + 1) [] name (by simp)
  rw [show ([] : List Int) = ([] : List Nat).map Int.ofNat from rfl, h1]
  unfold ch
  rw [← h2]
  cases r <;> rfl
theorem ch_len (p : List GClass) (name : List UInt8) : (ch p name).length ≤ p.length := by
  obtain ⟨_, _, _, _, _, k6, k7, _⟩ := ch_facts p name
  exact nodup_len _ _ k6 (fun x hx => (k7 x hx).1)
theorem ch_ne {p : List GClass} {name : List UInt8} {i : Nat} (h : fi p name = some i) : ch p name ≠ [] := by
  obtain ⟨_, _, _, k4, _⟩ := ch_facts p name
  intro e
  have := k4 i h
  rw [e] at this; simp at this

theorem has_L {l : List Int} (a : Int) (hp : l.length < 9223372036854775806) : ∀ (n k : Nat), n + k = l.length + 1 → k ≤ l.length →
    ref14_has_L1 l a n (k : Int) = some (if a ∈ l.drop k then .stop true else .next ())
  | 0, k, h, hk => by omega
  | n + 1, k, h, hk => by
    simp only [ref14_has_L1]
    by_cases hlt : k < l.length
    · rw [if_pos (by simpa using hlt), idx_lt hlt, List.drop_eq_getElem_cons hlt]
      simp only [obs]
      by_cases hc : (l[k] == a) = true
      · rw [if_pos hc]
        simp at hc
        rw [if_pos (by rw [← hc]; exact List.mem_cons_self)]
      · rw [if_neg hc, w64_succ hlt (by omega), has_L a hp n (k + 1) (by omega) (by omega)]
        have hne : a ≠ l[k] := fun e => hc (by simp [e])
        have e : (a ∈ l[k] :: l.drop (k + 1)) ↔ a ∈ l.drop (k + 1) := ⟨fun hm => (List.mem_cons.1 hm).resolve_left hne, List.mem_cons_of_mem _⟩
        simp only [e]
    · rw [if_neg (by simpa using hlt), List.drop_eq_nil_of_le (by omega)]
      simp
theorem has_eq {l : List Int} (hp : l.length < 9223372036854775806) (a : Int) : ref14_has l a = some (decide (a ∈ l)) := by
  unfold ref14_has
  have h := has_L a hp (l.length + 1) 0 (by omega) (by omega)
  rw [show (((l.length : Int) : Int) - (0)).toNat + 1 = l.length + 1 by omega, show (0 : Int) = ((0 : Nat) : Int) from rfl, h]
  simp only [obs, List.drop_zero]
  by_cases hm : a ∈ l
  · simp [hm, Ctl.elim]
  · simp [hm, Ctl.elim]

theorem refChain_L {p : List GClass} (hp : p.length ≤ 1000000) : ∀ (n : Nat) (out : List Nat) (name : List UInt8), n + out.length = p.length + 1 → Way p out name →
    ∃ r, ref14_Chain_L1 p (n + 1) (out.map Int.ofNat) (fnd p name) = some r ∧ Ctl.elim r (fun x => x) (fun x => x) = (chN p n out name).map Int.ofNat
  | 0, out, name, hn, hw => by
    exfalso
    have := nodup_len p.length out hw.nd hw.lt
    omega
  | n + 1, out, name, hn, hw => by
    have hout : (out.map Int.ofNat).length < 9223372036854775806 := by simp; omega
    have hroom : ∀ z : Int, room (((out.map Int.ofNat).length : Int) + (([z].length : Nat) : Int)) 8 = some () := fun z => room_ok (by simp; omega)
    simp only [ref14_Chain_L1]
    cases hf : fi p name with
    | none =>
      rw [fnd_none hf]
      refine ⟨.next (out.map Int.ofNat), rfl, ?_⟩
      simp [chN, hf, Ctl.elim]
    | some i =>
      rw [fnd_some hf, has_eq hout]
      obtain ⟨c, hc, _⟩ := fi_spec hf
      have hidx : idx p (i : Int) = some c := by rw [idx_nat]; exact hc
      have hsup : sup p i = c.fSuper := by unfold sup; rw [hc]
      have hd : decide ((i : Int) ≥ 0) = true := by simp
      rw [if_pos hd]
      simp only [chN, hf, obs, hroom, hidx]
      by_cases hi : i ∈ out
      · rw [if_neg (by simpa using mem_cast.2 hi), if_pos hi]
        exact ⟨_, rfl, rfl⟩
      · have hni : ¬ (i : Int) ∈ out.map Int.ofNat := fun h => hi (mem_cast.1 h)
        rw [if_pos (by simpa using hni), if_neg hi]
        have hcat : out.map Int.ofNat ++ [(i : Int)] = (out ++ [i]).map Int.ofNat := by simp
        rw [hcat, hsup]
        by_cases hs : (c.fSuper == []) = true
        · rw [if_pos hs, if_pos hs]
          exact ⟨_, rfl, rfl⟩
        · rw [if_neg hs, if_neg hs, ref13_Find_eq (by omega)]
          simp only [obs]
          have hs' : sup p i ≠ [] := by rw [hsup]; simpa using hs
          have := refChain_L hp n (out ++ [i]) (sup p i) (by simp; omega) (hw.snoc hf hi hs')
          rw [hsup] at this
          exact this
theorem ref_Chain_eq {p : List GClass} (hp : p.length ≤ 1000000) (name : List UInt8) : ref14_Chain p name = some ((ch p name).map Int.ofNat) := by
  unfold ref14_Chain
  rw [ref13_Find_eq (by omega)]
  obtain ⟨r, h1, h2⟩ := refChain_L hp (p.length + 1) [] name (by simp) (Way.nil p name)
  simp only [obs]
  rw [show p.length + 2 = p.length + 1 + 1 from rfl, show ([] : List Int) = ([] : List Nat).map Int.ofNat from rfl, h1]
  unfold ch
  rw [← h2]
  cases r <;> rfl

/-- Is class `b` at or above class `a`? -/
def bel (p : List GClass) (a b : List UInt8) : Bool := match fi p b with | some j => decide (j ∈ ch p a) | none => false
theorem fnd_mem {p : List GClass} {b : List UInt8} (l : List Nat) : decide (fnd p b ∈ l.map Int.ofNat) = match fi p b with | some j => decide (j ∈ l) | none => false := by
  cases hf : fi p b with
  | none =>
    rw [fnd_none hf]
    simp only [decide_eq_false_iff_not]
    intro h
    obtain ⟨j, _, hj⟩ := List.mem_map.1 h
    have : (0 : Int) ≤ Int.ofNat j := Int.natCast_nonneg j
    omega
  | some j =>
    rw [fnd_some hf]
    simp only [mem_cast]

theorem ref_Below_eq {p : List GClass} (hp : p.length ≤ 1000000) (a b : List UInt8) : ref14_Below p a b = some (bel p a b) := by
  unfold ref14_Below
  rw [ref13_Find_eq (by omega)]
  have hcl : ((ch p a).map Int.ofNat).length < 9223372036854775806 := by have := ch_len p a; simp; omega
  simp only [obs, ref_Chain_eq hp, has_eq hcl, fnd_mem]
  unfold bel
  cases hf : fi p b with
  | none => rw [fnd_none hf]; rfl
  | some j => rw [fnd_some hf, if_pos (by simp)]

/-! ### Which program's chains go round. -/
def cyc (p : List GClass) (c : GClass) : Bool := decide ((upN p (p.length + 1) c.fName).length = p.length + 1)
def chk (p : List GClass) : GFault := match p.find? (cyc p) with | some c => { fErr := 9, fAt := c.fAt } | none => { fErr := 0, fAt := 0 }
theorem upN_le (p : List GClass) : ∀ (n : Nat) (name : List UInt8), (upN p n name).length ≤ n
  | 0, name => by simp [upN]
  | n + 1, name => by
    simp only [upN]
    cases fi p name with
    | none => simp
    | some i =>
      simp only
      split
      · simp
      · have := upN_le p n (sup p i); simp; omega

theorem ref_Check_L {p : List GClass} (hp : p.length ≤ 1000000) : ∀ (n k : Nat), n + k = p.length + 1 → k ≤ p.length →
    ref14_Check_L1 p n (k : Int) = some (match (p.drop k).find? (cyc p) with | some c => .stop { fErr := 9, fAt := c.fAt } | none => .next ())
  | 0, k, h, hk => by omega
  | n + 1, k, h, hk => by
    simp only [ref14_Check_L1]
    by_cases hlt : k < p.length
    · rw [if_pos (by simpa using hlt), idx_lt hlt, List.drop_eq_getElem_cons hlt]
      simp only [obs, ref_Chain_eq hp]
      obtain ⟨i0, hi0⟩ := fi_some (List.getElem_mem hlt)
      have hne := ch_ne hi0
      have hlen := ch_len p p[k].fName
      obtain ⟨_, _, _, _, _, _, k7, k8⟩ := ch_facts p p[k].fName
      obtain ⟨x, hx⟩ : ∃ x, (ch p p[k].fName).getLast? = some x := by
        cases hl : (ch p p[k].fName).getLast? with
        | none => exact absurd (List.getLast?_eq_none_iff.1 hl) hne
        | some x => exact ⟨x, rfl⟩
      have hpos : 0 < (ch p p[k].fName).length := List.length_pos_iff.2 hne
      have hxm := List.mem_of_getLast? hx
      have hlast : idx ((ch p p[k].fName).map Int.ofNat) (w_i64 ((((ch p p[k].fName).map Int.ofNat).length : Int) - 1)) = some (x : Int) := by
        rw [List.length_map, w64 (by omega) (by omega), show ((ch p p[k].fName).length : Int) - 1 = (((ch p p[k].fName).length - 1 : Nat) : Int) by omega, idx_nat, List.getElem?_map]
        rw [List.getLast?_eq_getElem?] at hx
        rw [hx]; rfl
      rw [hlast]
      have hxl := (k7 x hxm).1
      have hidx : idx p (x : Int) = some p[x] := idx_lt hxl
      have hsx : sup p x = p[x].fSuper := by unfold sup; rw [List.getElem?_eq_getElem hxl]
      simp only [obs, hidx, List.find?_cons]
      have hb : cyc p p[k] = (!(p[x].fSuper == []) && decide (fnd p p[x].fSuper ∈ (ch p p[k].fName).map Int.ofNat)) := by
        unfold cyc
        rw [← k8]
        unfold back
        rw [hx]
        simp only [hsx]
        congr 1
        cases hf : fi p p[x].fSuper with
        | none =>
          rw [fnd_none hf]
          symm
          simp only [decide_eq_false_iff_not]
          intro h
          obtain ⟨j, _, hj⟩ := List.mem_map.1 h
          have : (0 : Int) ≤ Int.ofNat j := Int.natCast_nonneg j
          omega
        | some j =>
          rw [fnd_some hf]
          simp only [mem_cast]
      rw [hb]
      have hcl : ((ch p p[k].fName).map Int.ofNat).length < 9223372036854775806 := by simp; omega
      by_cases hs : (!(p[x].fSuper == [])) = true
      · rw [if_pos hs, hs, ref13_Find_eq (by omega)]
        simp only [obs, has_eq hcl, Bool.true_and]
        by_cases hm : fnd p p[x].fSuper ∈ (ch p p[k].fName).map Int.ofNat
        · rw [if_pos (by simpa using hm), decide_eq_true hm]
        · rw [if_neg (by simpa using hm), decide_eq_false hm, w64_succ hlt (by omega)]
          exact ref_Check_L hp n (k + 1) (by omega) (by omega)
      · rw [if_neg hs]
        have hs2 : (!(p[x].fSuper == [])) = false := by simpa using hs
        simp only [obs]
        rw [hs2, Bool.false_and, w64_succ hlt (by omega), if_neg (by simp)]
        exact ref_Check_L hp n (k + 1) (by omega) (by omega)
    · rw [if_neg (by simpa using hlt), List.drop_eq_nil_of_le (by omega)]
      rfl
theorem ref_Check_eq {p : List GClass} (hp : p.length ≤ 1000000) : ref14_Check p = some (chk p) := by
  unfold ref14_Check
  have h := ref_Check_L hp (p.length + 1) 0 (by omega) (by omega)
  rw [show (((p.length : Int) : Int) - (0)).toNat + 1 = p.length + 1 by omega, show (0 : Int) = ((0 : Nat) : Int) from rfl, h]
  simp only [obs, List.drop_zero]
  unfold chk
  cases p.find? (cyc p) <;> rfl

theorem upN_fi {p : List GClass} {a b : List UInt8} (h : fi p a = fi p b) : ∀ n, upN p n a = upN p n b
  | 0 => rfl
  | n + 1 => by simp only [upN, h]
theorem upN_more {p : List GClass} : ∀ (n : Nat) (name : List UInt8), (upN p n name).length < n → upN p (n + 1) name = upN p n name
  | 0, name, h => by simp at h
  | n + 1, name, h => by
    simp only [upN] at h
    cases hf : fi p name with
    | none => simp only [upN, hf]
    | some i =>
      rw [hf] at h
      simp only at h
      by_cases hs : (sup p i == []) = true
      · simp only [upN, hf, hs, if_true]
      · rw [if_neg hs] at h
        simp only [List.length_cons] at h
        have ih := upN_more (p := p) n (sup p i) (by omega)
        rw [show upN p (n + 1 + 1) name = (if (sup p i == []) = true then [i] else i :: upN p (n + 1) (sup p i)) by simp only [upN, hf], show upN p (n + 1) name = (if (sup p i == []) = true then [i] else i :: upN p n (sup p i)) by simp only [upN, hf], ih]
theorem upN_later {p : List GClass} : ∀ (n : Nat) (name nm : List UInt8) (k : Nat), (upN p n name).length < n → k ∈ upN p n name → fi p nm = some k → fi p name ≠ some k → (upN p n nm).length < (upN p n name).length
  | 0, name, nm, k, h, _, _, _ => by simp at h
  | n + 1, name, nm, k, h, hk, hnm, hne => by
    simp only [upN] at h hk
    cases hf : fi p name with
    | none => rw [hf] at hk; simp at hk
    | some i =>
      have hik : i ≠ k := fun e => hne (by rw [hf, e])
      rw [hf] at h hk
      simp only at h hk
      by_cases hs : (sup p i == []) = true
      · rw [if_pos hs] at hk
        simp at hk; exact absurd hk.symm hik
      · rw [if_neg hs] at h hk
        simp only [List.length_cons] at h
        have hlt : (upN p n (sup p i)).length < n := by omega
        have hk2 : k ∈ upN p n (sup p i) := (List.mem_cons.1 hk).resolve_left (fun e => hik e.symm)
        have e1 : upN p (n + 1) name = i :: upN p n (sup p i) := by simp only [upN, hf, if_neg hs]
        rw [e1]
        simp only [List.length_cons]
        by_cases he : fi p (sup p i) = some k
        · have : upN p n nm = upN p n (sup p i) := upN_fi (by rw [hnm, he]) n
          have hm := upN_more (p := p) n nm (by rw [this]; exact hlt)
          rw [hm, this]; omega
        · have ih := upN_later (p := p) n (sup p i) nm k hlt hk2 hnm he
          have hm := upN_more (p := p) n nm (by omega)
          rw [hm]; omega
theorem antisym {p : List GClass} {a b : List UInt8} (hab : a ≠ b) (h1 : bel p a b = true) (h2 : bel p b a = true) : (chk p).fErr ≠ 0 := by
  unfold bel at h1 h2
  cases hb : fi p b with
  | none => rw [hb] at h1; cases h1
  | some j =>
    cases ha : fi p a with
    | none => rw [ha] at h2; cases h2
    | some i =>
      rw [hb] at h1; rw [ha] at h2
      have hj : j ∈ upN p (p.length + 1) a := mem_up.2 (of_decide_eq_true h1)
      have hi : i ∈ upN p (p.length + 1) b := mem_up.2 (of_decide_eq_true h2)
      obtain ⟨ca, hca, hcan⟩ := fi_spec ha
      obtain ⟨cb, hcb, hcbn⟩ := fi_spec hb
      have hij : i ≠ j := by
        rintro rfl
        rw [hca] at hcb; cases hcb
        exact hab (hcan.symm.trans hcbn)
      have hfull : (upN p (p.length + 1) a).length = p.length + 1 := by
        have hle := upN_le p (p.length + 1) a
        rcases Nat.lt_or_ge (upN p (p.length + 1) a).length (p.length + 1) with hlt | hge
        · have l1 := upN_later _ a b j hlt hj hb (by rw [ha]; intro e; cases e; exact hij rfl)
          have l2 := upN_later _ b a i (by omega) hi ha (by rw [hb]; intro e; cases e; exact hij rfl)
          omega
        · omega
      have hcy : cyc p ca = true := by
        unfold cyc
        rw [hcan]
        exact decide_eq_true hfull
      have hmem : ca ∈ p := List.mem_of_getElem? hca
      unfold chk
      cases hf : p.find? (cyc p) with
      | some c => simp
      | none =>
        rw [List.find?_eq_none] at hf
        exact absurd hcy (hf ca hmem)

theorem upN_suf {p : List GClass} : ∀ (n : Nat) (name nm : List UInt8) (k : Nat), (upN p n name).length < n → k ∈ upN p n name → fi p nm = some k → ∃ pre, upN p n name = pre ++ upN p n nm ∧ k ∉ pre
  | 0, name, nm, k, h, _, _ => by simp at h
  | n + 1, name, nm, k, h, hk, hnm => by
    cases hf : fi p name with
    | none => simp only [upN, hf] at hk; simp at hk
    | some i =>
      by_cases hik : i = k
      · subst hik
        exact ⟨[], by rw [upN_fi (show fi p name = fi p nm by rw [hf, hnm])]; rfl, by simp⟩
      · by_cases hs : (sup p i == []) = true
        · simp only [upN, hf, hs, if_true] at hk
          simp at hk; exact absurd hk.symm hik
        · have e1 : upN p (n + 1) name = i :: upN p n (sup p i) := by simp only [upN, hf, if_neg hs]
          rw [e1] at h hk
          simp only [List.length_cons] at h
          obtain ⟨pre, h1, h2⟩ := upN_suf n (sup p i) nm k (by omega) ((List.mem_cons.1 hk).resolve_left (fun e => hik e.symm)) hnm
          have hl : (upN p n nm).length < n := by
            have := congrArg List.length h1
            rw [List.length_append] at this; omega
          refine ⟨i :: pre, by rw [e1, upN_more n nm hl, h1]; rfl, ?_⟩
          simp only [List.mem_cons, not_or]
          exact ⟨fun e => hik e.symm, h2⟩

theorem acyclic {p : List GClass} (h : (chk p).fErr = 0) {a : List UInt8} {i : Nat} (ha : fi p a = some i) : (upN p (p.length + 1) a).length < p.length + 1 := by
  obtain ⟨c, hc, hcn⟩ := fi_spec ha
  have hle := upN_le p (p.length + 1) a
  rcases Nat.lt_or_ge (upN p (p.length + 1) a).length (p.length + 1) with h1 | h1
  · exact h1
  · exfalso
    unfold chk at h
    cases hf : p.find? (cyc p) with
    | some d => rw [hf] at h; simp at h
    | none =>
      rw [List.find?_eq_none] at hf
      refine hf c (List.mem_of_getElem? hc) ?_
      unfold cyc
      rw [hcn]
      exact decide_eq_true (by omega)

/-! ### All fields. -/
def slotsOf (c : GClass) : List GSlot_field := c.fFields.map fun v => { fClass := c.fName, fVar := v }
def slotsAt (p : List GClass) (k : Nat) : List GSlot_field := match p[k]? with | some c => slotsOf c | none => []
/-- The fields of the classes of a chain, from the uppermost one on. -/
def allS (p : List GClass) (l : List Nat) : List GSlot_field := (l.reverse.map (slotsAt p)).flatten
theorem allS_cons (p : List GClass) (k : Nat) (l : List Nat) : allS p (k :: l) = allS p l ++ slotsAt p k := by simp [allS]
theorem allS_snoc (p : List GClass) (k : Nat) (l : List Nat) : allS p (l ++ [k]) = slotsAt p k ++ allS p l := by simp [allS]
def fieldsOk (p : List GClass) (N : Nat) : Prop := ∀ c ∈ p, c.fFields.length ≤ N
theorem slotsAt_len {p : List GClass} {N : Nat} (h : fieldsOk p N) (k : Nat) : (slotsAt p k).length ≤ N := by
  unfold slotsAt
  cases hk : p[k]? with
  | none => simp
  | some c => simpa [slotsOf] using h c (List.mem_of_getElem? hk)
theorem allS_len {p : List GClass} {N : Nat} (h : fieldsOk p N) : ∀ l : List Nat, (allS p l).length ≤ l.length * N
  | [] => by simp [allS]
  | k :: l => by
    rw [allS_cons, List.length_append, List.length_cons, Nat.add_mul, Nat.one_mul]
    have := slotsAt_len h k
    have := allS_len h l
    omega
theorem field_All_L2_eq {p : List GClass} {k : Nat} {c : GClass} (hk : p[k]? = some c) (hN : c.fFields.length ≤ 1000000) : ∀ (n j : Nat) (out : List GSlot_field), n + j = c.fFields.length + 1 → j ≤ c.fFields.length → out.length + (c.fFields.length - j) ≤ 1000000000 →
    field_All_L2 p (k : Int) c n out (j : Int) = some (out ++ (c.fFields.drop j).map fun v => { fClass := c.fName, fVar := v })
  | 0, j, out, h, hj, _ => by omega
  | n + 1, j, out, h, hj, ho => by
    simp only [field_All_L2]
    by_cases hlt : j < c.fFields.length
    · have hidx : idx p (k : Int) = some c := by rw [idx_nat]; exact hk
      have hroom : ∀ z : GSlot_field, room ((out.length : Int) + (([z].length : Nat) : Int)) 136 = some () := fun z => room_ok (by simp; omega)
      rw [if_pos (by simpa using hlt), idx_lt hlt]
      simp only [obs, hidx, hroom]
      rw [w64_succ hlt (by omega), field_All_L2_eq hk hN n (j + 1) _ (by omega) (by omega) (by simp; omega), List.drop_eq_getElem_cons hlt]
      simp only [List.map_cons, List.append_assoc, List.singleton_append]
    · rw [if_neg (by simpa using hlt), List.drop_eq_nil_of_le (by omega)]
      simp
theorem field_runs {p : List GClass} {N : Nat} (hN : N ≤ 1000) (hf : fieldsOk p N) (l : List Nat) (hl : ∀ x ∈ l, x < p.length) (hll : l.length ≤ 1000000) : ∀ (n : Nat) (out : List GSlot_field), n ≤ l.length → out.length + n * N ≤ 1000000000 →
    runs (field_All_B1 p) (itR_back_n (l.map Int.ofNat) n) out = some (.next (out ++ allS p (l.take n)))
  | 0, out, _, _ => by simp [itR_back_n, runs, allS]
  | n + 1, out, h, ho => by
    have hn : (l.map Int.ofNat)[n]? = some (Int.ofNat l[n]) := by rw [List.getElem?_map, List.getElem?_eq_getElem (by omega)]; rfl
    have hx := hl l[n] (List.getElem_mem (by omega))
    have hk : p[l[n]]? = some p[l[n]] := List.getElem?_eq_getElem hx
    have hidx : idx p (Int.ofNat l[n]) = some p[l[n]] := idx_lt hx
    have hc := hf p[l[n]] (List.getElem_mem hx)
    rw [Nat.add_mul, Nat.one_mul] at ho
    have hL := field_All_L2_eq hk (by omega) (p[l[n]].fFields.length + 1) 0 out (by omega) (by omega) (by omega)
    simp only [itR_back_n, hn, runs, field_All_B1, hidx, obs]
    rw [show (((p[l[n]].fFields.length : Int) : Int) - (0)).toNat + 1 = p[l[n]].fFields.length + 1 by omega, show (Int.ofNat l[n] : Int) = ((l[n] : Nat) : Int) from rfl, show (0 : Int) = ((0 : Nat) : Int) from rfl, hL]
    simp only [obs, Ctl.elim, List.drop_zero]
    have hlen : (p[l[n]].fFields.map fun v => ({ fClass := p[l[n]].fName, fVar := v } : GSlot_field)).length ≤ N := by simpa using hc
    rw [field_runs hN hf l hl hll n _ (by omega) (by rw [List.length_append]; omega)]
    congr 2
    have ht : l.take (n + 1) = l.take n ++ [l[n]] := by rw [List.take_add_one, List.getElem?_eq_getElem (by omega)]; rfl
    rw [ht]
    have : slotsAt p l[n] = p[l[n]].fFields.map fun v => ({ fClass := p[l[n]].fName, fVar := v } : GSlot_field) := by unfold slotsAt; rw [hk]; rfl
    rw [allS_snoc, this, List.append_assoc]
/-- The fields of a class, by the program. -/
def flds (p : List GClass) (name : List UInt8) : List GSlot_field := allS p (ch p name)
theorem field_All_eq {p : List GClass} {N : Nat} (hp : p.length ≤ 1000) (hN : N ≤ 1000) (hf : fieldsOk p N) (name : List UInt8) : field_All p name = some (flds p name) := by
  unfold field_All
  rw [above_Chain_eq (by omega)]
  obtain ⟨_, _, _, _, _, _, k7, _⟩ := ch_facts p name
  have hcl := ch_len p name
  have hNm : (ch p name).length * N ≤ 1000 * 1000 := Nat.mul_le_mul (by omega) hN
  simp only [obs, slices_Backward_int, itR_back, List.length_map]
  rw [if_pos (by omega)]
  simp only [obs]
  rw [field_runs hN hf (ch p name) (fun x hx => (k7 x hx).1) (by omega) (ch p name).length [] (Nat.le_refl _) (by simp; omega)]
  simp [obs, Ctl.elim, flds]
theorem flds_len {p : List GClass} {N : Nat} (hp : p.length ≤ 1000) (hN : N ≤ 1000) (hf : fieldsOk p N) (name : List UInt8) : (flds p name).length ≤ 1000000 := by
  have h1 := allS_len hf (ch p name)
  have hcl := ch_len p name
  have : (ch p name).length * N ≤ 1000 * 1000 := Nat.mul_le_mul (by omega) hN
  unfold flds; omega

/-! ### A field that stands twice. -/
/-- Has the class at `j` a field of the name? -/
def hasF (p : List GClass) (name : List UInt8) (j : Nat) : Bool := match p[j]? with | some c => c.fFields.any (fun v => v.fName == name) | none => false
/-- Is there one in another class of the chain of the class at `i`? -/
def othF (p : List GClass) (i : Nat) (cn name : List UInt8) : Bool := (ch p cn).any (fun j => !(j == i) && hasF p name j)
def gck (p : List GClass) (i : Nat) (c : GClass) (k : Nat) : Option GFault := match c.fFields[k]? with | some v => if othF p i c.fName v.fName then some ({ fErr := 7, fAt := v.fAt } : GFault) else none | none => none
def gcl (p : List GClass) (i : Nat) : Option GFault := match p[i]? with | some c => frst (gck p i c) 0 c.fFields.length | none => none
def chkF (p : List GClass) : Option GFault := frst (gcl p) 0 p.length
/-- What a map of names says. -/
structure Knows (m : List UInt8 → Int) (n : Nat) (S : List UInt8 → Bool) : Prop where
  lo : ∀ x, 0 ≤ m x
  hi : ∀ x, m x ≤ n
  iff : ∀ x, decide (m x > 0) = S x
theorem Knows.ext {m : List UInt8 → Int} {n : Nat} {S S' : List UInt8 → Bool} (h : Knows m n S) (e : ∀ x, S x = S' x) : Knows m n S' := ⟨h.lo, h.hi, fun x => (h.iff x).trans (e x)⟩
theorem Knows.mono {m : List UInt8 → Int} {n n' : Nat} {S : List UInt8 → Bool} (h : Knows m n S) (e : n ≤ n') : Knows m n' S := ⟨h.lo, fun x => Int.le_trans (h.hi x) (by omega), h.iff⟩
theorem check_L3 {c : GClass} (hc : ∀ v ∈ c.fFields, v.fName.length ≤ maxLen) (hl : c.fFields.length ≤ 1000) : ∀ (n k : Nat) (nn : Nat) (m : List UInt8 → Int) (S : List UInt8 → Bool), n + k = c.fFields.length + 1 → k ≤ c.fFields.length → nn + (c.fFields.length - k) ≤ 2000000 → Knows m nn S →
    ∃ m', field_Check_L3 c n nn m (k : Int) = some (nn + (c.fFields.length - k), m') ∧ Knows m' (nn + (c.fFields.length - k)) (fun x => S x || (c.fFields.drop k).any (fun v => v.fName == x))
  | 0, k, nn, m, S, h, hk, _, _ => by omega
  | n + 1, k, nn, m, S, h, hk, hn, hm => by
    simp only [field_Check_L3]
    by_cases hlt : k < c.fFields.length
    · have hv : c.fFields[k].fName.length ≤ maxLen := hc _ (List.getElem_mem hlt)
      have h0 := hm.lo c.fFields[k].fName
      have h1 := hm.hi c.fFields[k].fName
      rw [if_pos (by simpa using hlt), idx_lt hlt]
      have hg : mget m c.fFields[k].fName = some (m c.fFields[k].fName) := by unfold mget; rw [if_pos hv]
      have hp : mput nn m c.fFields[k].fName (w_i64 (m c.fFields[k].fName + 1)) = some (fun x => if x = c.fFields[k].fName then m c.fFields[k].fName + 1 else m x) := by
        rw [w64 (by omega) (by omega)]
        unfold mput
        rw [if_pos ⟨hv, by simp only [maxLen]; omega, Int.le_trans (show IntKind.i64.min ≤ 0 by decide) (by omega), Int.le_trans (b := 3000000) (by omega) (by decide)⟩]
      simp only [obs, hg, hp]
      rw [w64_succ hlt (by omega)]
      obtain ⟨m', q1, q2⟩ := check_L3 hc hl n (k + 1) (nn + 1) (fun x => if x = c.fFields[k].fName then m c.fFields[k].fName + 1 else m x) (fun x => S x || (c.fFields[k].fName == x)) (by omega) (by omega) (by omega)
        ⟨fun x => by split; omega; exact hm.lo x, fun x => by have := hm.hi x; split <;> omega, fun x => by
          by_cases hx : x = c.fFields[k].fName
          · rw [if_pos hx, hx]; simp; omega
          · rw [if_neg hx, hm.iff x]; simp [Ne.symm hx]⟩
      refine ⟨m', by rw [q1]; congr 2; omega, ?_⟩
      refine Knows.ext (Knows.mono q2 (by omega)) fun x => ?_
      rw [List.drop_eq_getElem_cons hlt, List.any_cons, Bool.or_assoc]
    · rw [if_neg (by simpa using hlt)]
      refine ⟨m, by rw [show nn + (c.fFields.length - k) = nn by omega], ?_⟩
      refine Knows.ext (Knows.mono hm (by omega)) fun x => ?_
      rw [List.drop_eq_nil_of_le (by omega)]; simp
theorem check_L2 {p : List GClass} {i N : Nat} (hc : ∀ c ∈ p, ∀ v ∈ c.fFields, v.fName.length ≤ maxLen) (hN : N ≤ 1000) (hf : fieldsOk p N) {l : List Nat} (hl : ∀ x ∈ l, x < p.length) (hll : l.length ≤ 1000) : ∀ (n k : Nat) (nn : Nat) (m : List UInt8 → Int) (S : List UInt8 → Bool), n + k = l.length + 1 → k ≤ l.length → nn ≤ k * N → Knows m nn S →
    ∃ nn' m', field_Check_L2 p (i : Int) (l.map Int.ofNat) n nn m (k : Int) = some (nn', m') ∧ Knows m' nn' (fun x => S x || (l.drop k).any (fun j => !(j == i) && hasF p x j))
  | 0, k, nn, m, S, h, hk, _, _ => by omega
  | n + 1, k, nn, m, S, h, hk, hn, hm => by
    have hkN : k * N ≤ 1000 * 1000 := Nat.mul_le_mul (by omega) hN
    simp only [field_Check_L2]
    by_cases hlt : k < l.length
    · have hx := hl l[k] (List.getElem_mem hlt)
      have h2 : idx (l.map Int.ofNat) (k : Int) = some ((l[k] : Nat) : Int) := by rw [idx_nat, List.getElem?_map, List.getElem?_eq_getElem hlt]; rfl
      rw [if_pos (by simpa using hlt), h2, w64_succ hlt (by omega)]
      simp only [obs]
      by_cases he : l[k] = i
      · rw [if_pos (by simp [he])]
        simp only [obs]
        obtain ⟨nn', m', q1, q2⟩ := check_L2 (i := i) hc hN hf hl hll n (k + 1) nn m S (by omega) (by omega) (by rw [Nat.add_mul]; omega) hm
        refine ⟨nn', m', q1, Knows.ext q2 fun x => ?_⟩
        rw [List.drop_eq_getElem_cons hlt, List.any_cons]; simp [he]
      · have hcm := List.getElem_mem hx
        have hfl := hf _ hcm
        rw [if_neg (by simp; omega), idx_lt hx]
        simp only [obs]
        obtain ⟨m1, r1, r2⟩ := check_L3 (hc _ hcm) (by omega) (p[l[k]].fFields.length + 1) 0 nn m S (by omega) (by omega) (by omega) hm
        rw [show (((p[l[k]].fFields.length : Int) : Int) - (0)).toNat + 1 = p[l[k]].fFields.length + 1 by omega, show (0 : Int) = ((0 : Nat) : Int) from rfl, r1]
        simp only [obs]
        obtain ⟨nn', m', q1, q2⟩ := check_L2 (i := i) hc hN hf hl hll n (k + 1) _ m1 _ (by omega) (by omega) (by rw [Nat.add_mul]; omega) r2
        refine ⟨nn', m', q1, Knows.ext q2 fun x => ?_⟩
        rw [List.drop_eq_getElem_cons hlt, List.any_cons]
        have hh : hasF p x l[k] = p[l[k]].fFields.any (fun v => v.fName == x) := by unfold hasF; rw [List.getElem?_eq_getElem hx]
        rw [hh, List.drop_zero, show (!(l[k] == i)) = true by simpa using he, Bool.true_and, Bool.or_assoc]
    · rw [if_neg (by simpa using hlt)]
      refine ⟨nn, m, rfl, Knows.ext hm fun x => ?_⟩
      rw [List.drop_eq_nil_of_le (by omega)]; simp
theorem field_Check_eq {p : List GClass} {N : Nat} (hp : p.length ≤ 1000) (hc : ∀ c ∈ p, ∀ v ∈ c.fFields, v.fName.length ≤ maxLen) (hN : N ≤ 1000) (hf : fieldsOk p N) : field_Check p = some (match chkF p with | some f => f | none => ⟨0, 0⟩) := by
  unfold field_Check
  rw [fuelN, srch0 (L := field_Check_L1 p) (len := p.length) (g := gcl p) (fun n => ?_) (fun n i hi => ?_) (Nat.lt_succ_self _)]
  · simp only [obs]
    unfold chkF
    cases frst (gcl p) 0 p.length <;> rfl
  · simp only [field_Check_L1]
    rw [if_neg (by simp)]
  · have hcl := ch_len p p[i].fName
    obtain ⟨_, _, _, _, _, _, k7, _⟩ := ch_facts p p[i].fName
    have hfl := hf _ (List.getElem_mem hi)
    simp only [field_Check_L1]
    rw [if_pos (by simpa using hi), idx_lt hi, w64_succ hi (by omega)]
    simp only [obs, above_Chain_eq (show p.length ≤ 1000000 by omega), List.length_map]
    obtain ⟨nn, m, q1, q2⟩ := check_L2 (p := p) (i := i) hc hN hf (l := ch p p[i].fName) (fun x hx => (k7 x hx).1) (by omega) ((ch p p[i].fName).length + 1) 0 0 (fun _ => 0) (fun _ => false) (by omega) (by omega) (by omega) ⟨fun _ => Int.le_refl _, fun _ => Int.le_refl _, fun _ => rfl⟩
    rw [fuelN, fuelN]
    have q1' := q1
    rw [show ((0 : Nat) : Int) = 0 from rfl] at q1'
    rw [q1']
    simp only [obs]
    rw [srch0 (L := field_Check_L4 m p[i]) (len := p[i].fFields.length) (g := gck p i p[i]) (fun n => ?_) (fun n k hk => ?_) (Nat.lt_succ_self _)]
    · simp only [obs, gcl, List.getElem?_eq_getElem hi]
      cases frst (gck p i p[i]) 0 p[i].fFields.length <;> rfl
    · simp only [field_Check_L4]
      rw [if_neg (by simp)]
    · have hv := hc _ (List.getElem_mem hi) _ (List.getElem_mem hk)
      have hg : mget m p[i].fFields[k].fName = some (m p[i].fFields[k].fName) := by unfold mget; rw [if_pos hv]
      simp only [field_Check_L4]
      rw [if_pos (by simpa using hk), idx_lt hk, w64_succ hk (by omega)]
      simp only [obs, hg, q2.iff, List.drop_zero, Bool.false_or, gck, List.getElem?_eq_getElem hk]
      show (if othF p i p[i].fName p[i].fFields[k].fName = true then _ else _) = _
      by_cases ho : othF p i p[i].fName p[i].fFields[k].fName = true
      · rw [if_pos ho, if_pos ho]
      · rw [if_neg ho, if_neg ho]

/-! ### Where a field of a name stands. -/
def gnm (l : List GSlot_field) (name : List UInt8) (k : Nat) : Option Int := match l[k]? with | some s => if s.fVar.fName == name then some (k : Int) else none | none => none
def fplace (l : List GSlot_field) (name : List UInt8) : Option Int := frst (gnm l name) 0 l.length
def fposn (l : List GSlot_field) (name : List UInt8) : Int := match fplace l name with | some i => i | none => -1
theorem fplace_some {l : List GSlot_field} {name : List UInt8} {i : Int} (h : fplace l name = some i) : ∃ k : Nat, i = k ∧ ∃ hk : k < l.length, l[k].fVar.fName = name ∧ ∀ j (hj : j < k), l[j].fVar.fName ≠ name := by
  obtain ⟨k, h1, h2, h3, h4⟩ := frst_some _ _ h
  have hk : k < l.length := by omega
  simp only [gnm, List.getElem?_eq_getElem hk] at h3
  split at h3
  · rename_i hc
    cases h3
    refine ⟨k, rfl, hk, by simpa using hc, fun j hj => ?_⟩
    have := h4 j (by omega) hj
    simp only [gnm, List.getElem?_eq_getElem (show j < l.length by omega)] at this
    split at this
    · cases this
    · rename_i hc; simpa using hc
  · cases h3
theorem indexFunc_eq {l : List GSlot_field} (hl : l.length ≤ 1000000) (name : List UInt8) : slices_IndexFunc_field_Slot l (fun (z5 : GSlot_field) => field_named_1 z5 name) = some (fposn l name) := by
  unfold slices_IndexFunc_field_Slot
  rw [fuelN, srch0 (L := slices_IndexFunc_field_Slot_L1 l (fun (z5 : GSlot_field) => field_named_1 z5 name)) (len := l.length) (g := gnm l name) (fun n => ?_) (fun n k hk => ?_) (Nat.lt_succ_self _)]
  · simp only [obs]
    unfold fposn fplace
    cases frst (gnm l name) 0 l.length <;> rfl
  · simp only [slices_IndexFunc_field_Slot_L1]
    rw [if_neg (by simp)]
  · simp only [slices_IndexFunc_field_Slot_L1]
    rw [if_pos (by simpa using hk), idx_lt hk, w64_succ hk (by omega)]
    simp only [obs, field_named_1, gnm, List.getElem?_eq_getElem hk]
    by_cases hc : (l[k].fVar.fName == name) = true
    · rw [if_pos hc, if_pos hc]
    · rw [if_neg hc, if_neg hc]
theorem field_Find_eq {p : List GClass} {N : Nat} (hp : p.length ≤ 1000) (hN : N ≤ 1000) (hf : fieldsOk p N) (name f : List UInt8) : field_Find p name f = some (fposn (flds p name) f) := by
  unfold field_Find
  rw [field_All_eq hp hN hf]
  simp only [obs, field_named]
  rw [indexFunc_eq (flds_len hp hN hf name)]
  rfl

theorem great_L {p : List GClass} (hp : p.length ≤ 9223372036854775807) : ∀ (n k : Nat), n + k = p.length + 1 → k ≤ p.length →
    law16_great_L1 p n (k : Int) = some (.stop true) ∨ (law16_great_L1 p n (k : Int) = some (.next ()) ∧ ∀ c ∈ p.drop k, c.fFields.length ≤ 40)
  | 0, k, h, hk => by omega
  | n + 1, k, h, hk => by
    simp only [law16_great_L1]
    by_cases hlt : k < p.length
    · rw [if_pos (by simpa using hlt), idx_lt hlt]
      simp only [obs]
      by_cases hc : (decide ((p[k].fFields.length : Int) > 40)) = true
      · rw [if_pos hc]; exact .inl rfl
      · rw [if_neg hc, w64_succ hlt (by omega)]
        rcases great_L hp n (k + 1) (by omega) (by omega) with h1 | ⟨h1, h2⟩
        · exact .inl h1
        · refine .inr ⟨h1, fun c hm => ?_⟩
          rw [List.drop_eq_getElem_cons hlt] at hm
          rcases List.mem_cons.1 hm with rfl | hm
          · simp at hc; omega
          · exact h2 c hm
    · rw [if_neg (by simpa using hlt), List.drop_eq_nil_of_le (by omega)]
      exact .inr ⟨rfl, fun c hm => by simp at hm⟩
theorem great_eq {p : List GClass} (hp : p.length ≤ 9223372036854775807) : ∃ b, law16_great p = some b ∧ (b = false → p.length ≤ 30 ∧ fieldsOk p 40) := by
  unfold law16_great
  rw [show (((p.length : Int) : Int) - (0)).toNat + 1 = p.length + 1 by omega, show (0 : Int) = ((0 : Nat) : Int) from rfl]
  rcases great_L hp (p.length + 1) 0 (by omega) (by omega) with h1 | ⟨h1, h2⟩
  · rw [h1]
    exact ⟨true, rfl, fun hb => by cases hb⟩
  · rw [h1]
    refine ⟨_, rfl, fun hb => ⟨by simp at hb; omega, fun c hm => h2 c (by simpa using hm)⟩⟩

/-! ### What never fails. -/
def Tot {α : Type} (o : Option α) : Prop := ∃ r, o = some r
theorem tot_some {α : Type} (x : α) : Tot (some x) := ⟨x, rfl⟩
theorem tot_bind {α β : Type} {a : Option α} {f : α → Option β} (h : Tot a) (h2 : ∀ x, a = some x → Tot (f x)) : Tot (Option.bind a f) := by
  obtain ⟨x, rfl⟩ := h
  exact h2 x rfl
theorem tot_ite {α : Type} {b : Bool} {x y : Option α} (h1 : b = true → Tot x) (h2 : b = false → Tot y) : Tot (if b = true then x else y) := by
  cases b with
  | true => exact h1 rfl
  | false => exact h2 rfl
theorem tot_elim {R S α : Type} {r : Ctl R S} {f : R → Option α} {g : S → Option α} (h1 : ∀ v, Tot (f v)) (h2 : ∀ s, Tot (g s)) : Tot (Ctl.elim r f g) := by
  cases r with
  | stop v => exact h1 v
  | next s => exact h2 s
theorem tot_loop1 {ρ : Type} (F : Nat → Int → Option ρ) (len : Nat) (h1 : ∀ (n k : Nat), k < len → Tot (F n ((k + 1 : Nat) : Int)) → Tot (F (n + 1) (k : Int))) (h2 : ∀ (n k : Nat), ¬ k < len → Tot (F (n + 1) (k : Int))) :
    ∀ (n k : Nat), n + k = len + 1 → k ≤ len → Tot (F n (k : Int))
  | 0, k, h, hk => by omega
  | n + 1, k, h, hk => by
    by_cases hlt : k < len
    · exact h1 n k hlt (tot_loop1 F len h1 h2 n (k + 1) (by omega) (by omega))
    · exact h2 n k hlt
theorem tot_loop2 {σ ρ : Type} (F : Nat → σ → Int → Option ρ) (len : Nat) (h1 : ∀ (n k : Nat) (s : σ), k < len → (∀ s', Tot (F n s' ((k + 1 : Nat) : Int))) → Tot (F (n + 1) s (k : Int))) (h2 : ∀ (n k : Nat) (s : σ), ¬ k < len → Tot (F (n + 1) s (k : Int))) :
    ∀ (n k : Nat) (s : σ), n + k = len + 1 → k ≤ len → Tot (F n s (k : Int))
  | 0, k, s, h, hk => by omega
  | n + 1, k, s, h, hk => by
    by_cases hlt : k < len
    · exact h1 n k s hlt (fun s' => tot_loop2 F len h1 h2 n (k + 1) s' (by omega) (by omega))
    · exact h2 n k s hlt
theorem fuel_len (m : Nat) : (((m : Int) : Int) - (0)).toNat + 1 = m + 1 := by omega

/-! ### What never fails, and what it then gives. -/
def TP {α : Type} (Q : α → Prop) (o : Option α) : Prop := ∃ r, o = some r ∧ Q r
theorem tp_some {α : Type} {Q : α → Prop} {x : α} (h : Q x) : TP Q (some x) := ⟨x, rfl, h⟩
theorem tp_bind {α β : Type} {R : α → Prop} {Q : β → Prop} {a : Option α} {f : α → Option β} (h : TP R a) (h2 : ∀ x, R x → TP Q (f x)) : TP Q (Option.bind a f) := by
  obtain ⟨x, rfl, hx⟩ := h
  exact h2 x hx
theorem tp_ite {α : Type} {Q : α → Prop} {b : Bool} {x y : Option α} (h1 : b = true → TP Q x) (h2 : b = false → TP Q y) : TP Q (if b = true then x else y) := by
  cases b with
  | true => exact h1 rfl
  | false => exact h2 rfl
theorem tp_elim {R S α : Type} {Q : α → Prop} {r : Ctl R S} {f : R → Option α} {g : S → Option α} (h1 : ∀ v, TP Q (f v)) (h2 : ∀ s, TP Q (g s)) : TP Q (Ctl.elim r f g) := by
  cases r with
  | stop v => exact h1 v
  | next s => exact h2 s
theorem tp_of {α : Type} {o : Option α} (h : Tot o) : TP (fun _ => True) o := by obtain ⟨r, h⟩ := h; exact ⟨r, h, trivial⟩
theorem tot_of {α : Type} {Q : α → Prop} {o : Option α} (h : TP Q o) : Tot o := by obtain ⟨r, h, _⟩ := h; exact ⟨r, h⟩
theorem tp_loop {σ ρ : Type} {Q : ρ → Prop} (F : Nat → σ → Int → Option ρ) (len : Nat) (I : Nat → σ → Prop) (h1 : ∀ (n k : Nat) (s : σ), k < len → I k s → (∀ s', I (k + 1) s' → TP Q (F n s' ((k + 1 : Nat) : Int))) → TP Q (F (n + 1) s (k : Int))) (h2 : ∀ (n : Nat) (s : σ), I len s → TP Q (F (n + 1) s (len : Int))) :
    ∀ (n k : Nat) (s : σ), n + k = len + 1 → k ≤ len → I k s → TP Q (F n s (k : Int))
  | 0, k, s, h, hk, _ => by omega
  | n + 1, k, s, h, hk, hi => by
    by_cases hlt : k < len
    · exact h1 n k s hlt hi (fun s' hs' => tp_loop F len I h1 h2 n (k + 1) s' (by omega) (by omega) hs')
    · have : k = len := by omega
      subst this
      exact h2 n s hi
theorem lsum_mem {α : Type} {u : α → Nat} {l : List α} {y : α} : y ∈ l → u y ≤ lsum u l := by
  induction l with
  | nil => intro h; simp at h
  | cons x l ih =>
    intro h
    simp only [lsum]
    rcases List.mem_cons.1 h with rfl | h
    · omega
    · have := ih h; omega
theorem len_lsum {α : Type} {u : α → Nat} (h : ∀ y, 1 ≤ u y) : ∀ l : List α, l.length ≤ lsum u l
  | [] => Nat.le_refl _
  | x :: l => by simp only [lsum, List.length_cons]; have := h x; have := len_lsum h l; omega
theorem lsum_le {α : Type} {u v : α → Nat} : ∀ {l : List α}, (∀ y ∈ l, u y ≤ v y) → lsum u l ≤ lsum v l
  | [], _ => Nat.le_refl _
  | x :: l, h => by simp only [lsum]; have := h x (by simp); have := lsum_le (l := l) (fun y hy => h y (by simp [hy])); omega
theorem lsum_drop {α : Type} (u : α → Nat) {l : List α} {k : Nat} (h : k < l.length) : lsum u (l.drop k) = u l[k] + lsum u (l.drop (k + 1)) := by rw [List.drop_eq_getElem_cons h]; rfl

/-! ### What a program counts. -/
theorem u1_str (s : List UInt8) : 1 ≤ List.length s + 1 := by omega
theorem u1_O (x : GOwner) : 1 ≤ uGOwner x := by unfold uGOwner; omega
theorem u1_T (x : GType) : 1 ≤ uGType x := by unfold uGType; omega
theorem u1_V (x : GVar) : 1 ≤ uGVar x := by unfold uGVar; omega
theorem u1_E (x : GExpr) : 1 ≤ uGExpr x := by rw [uGExpr_eq]; omega
theorem u1_S (x : GStmt) : 1 ≤ uGStmt x := by rw [uGStmt_eq]; omega
theorem u1_M (x : GMethod) : 1 ≤ uGMethod x := by unfold uGMethod; omega
theorem u1_C (x : GClass) : 1 ≤ uGClass x := by unfold uGClass; omega
theorem uT_p (x : GType) : x.fClass.length < uGType x := by unfold uGType; omega
theorem uV_p (x : GVar) : x.fName.length < uGVar x ∧ uGType x.fType < uGVar x := by unfold uGVar; omega
theorem uE_p (x : GExpr) : x.fName.length < uGExpr x ∧ lsum uGExpr x.fKids < uGExpr x := by rw [uGExpr_eq]; omega
theorem uS_p (x : GStmt) : x.fX.length < uGStmt x ∧ x.fY.length < uGStmt x ∧ x.fName.length < uGStmt x ∧ uGType x.fType < uGStmt x ∧ uGExpr x.fE < uGStmt x ∧ lsum uGExpr x.fArgs < uGStmt x ∧ 1 + lsum uGStmt x.fBody + lsum uGStmt x.fElse < uGStmt x := by rw [uGStmt_eq]; omega
theorem uM_p (x : GMethod) : x.fName.length < uGMethod x ∧ uGType x.fRet < uGMethod x ∧ 1 + lsum uGVar x.fParams + lsum uGVar x.fLocals + lsum uGStmt x.fBody < uGMethod x := by unfold uGMethod; omega
theorem uC_p (x : GClass) : x.fName.length < uGClass x ∧ lsum (fun s => List.length s + 1) x.fParams < uGClass x ∧ x.fSuper.length < uGClass x ∧ lsum uGOwner x.fAbove < uGClass x ∧ lsum uGVar x.fFields + lsum uGMethod x.fMethods < uGClass x := by unfold uGClass; omega
theorem mLE_sum : ∀ l : List GExpr, mLGExpr l = lsum mGExpr l
  | [] => by simp only [mLGExpr, lsum]
  | x :: l => by simp only [mLGExpr, lsum, mLE_sum l]
theorem mLS_sum : ∀ l : List GStmt, mLGStmt l = lsum mGStmt l
  | [] => by simp only [mLGStmt, lsum]
  | x :: l => by simp only [mLGStmt, lsum, mLS_sum l]
theorem mE_eq (e : GExpr) : mGExpr e = 1 + lsum mGExpr e.fKids := by rw [← mLE_sum]; cases e; simp only [mGExpr]
theorem mS_eq (e : GStmt) : mGStmt e = 1 + mGExpr e.fE + lsum mGExpr e.fArgs + lsum mGStmt e.fBody + lsum mGStmt e.fElse := by rw [← mLS_sum, ← mLS_sum, ← mLE_sum]; cases e; simp only [mGStmt]
theorem mE_u : ∀ (n : Nat) (e : GExpr), mGExpr e ≤ n → mGExpr e ≤ uGExpr e
  | 0, e, h => by rw [mE_eq] at h; omega
  | n + 1, e, h => by
    rw [mE_eq] at h
    rw [mE_eq]
    have := (uE_p e).2
    have := lsum_le (u := mGExpr) (v := uGExpr) (l := e.fKids) (fun y hy => mE_u n y (by have := lsum_mem (u := mGExpr) hy; omega))
    omega
theorem mE_le (e : GExpr) : mGExpr e ≤ uGExpr e := mE_u _ e (Nat.le_refl _)
theorem mS_u : ∀ (n : Nat) (e : GStmt), mGStmt e ≤ n → mGStmt e ≤ uGStmt e
  | 0, e, h => by rw [mS_eq] at h; omega
  | n + 1, e, h => by
    rw [mS_eq] at h
    rw [mS_eq, uGStmt_eq]
    have h1 := lsum_le (u := mGExpr) (v := uGExpr) (l := e.fArgs) (fun y _ => mE_le y)
    have h2 := lsum_le (u := mGStmt) (v := uGStmt) (l := e.fBody) (fun y hy => mS_u n y (by have := lsum_mem (u := mGStmt) hy; omega))
    have h3 := lsum_le (u := mGStmt) (v := uGStmt) (l := e.fElse) (fun y hy => mS_u n y (by have := lsum_mem (u := mGStmt) hy; omega))
    have h4 := mE_le e.fE
    omega
theorem mS_le (e : GStmt) : mGStmt e ≤ uGStmt e := mS_u _ e (Nat.le_refl _)

/-! ### The document's words, types, expressions, statements: never a failure. -/
theorem tot_Letter (b : Int) : Tot (ref02_Letter b) := by
  unfold ref02_Letter
  repeat (first | exact tot_some _ | refine tot_ite (fun _ => ?_) fun _ => ?_)
theorem tot_Digit (b : Int) : Tot (ref02_Digit b) := by
  unfold ref02_Digit
  repeat (first | exact tot_some _ | refine tot_ite (fun _ => ?_) fun _ => ?_)
theorem tot_Find (s : List UInt8) : Tot (ref02_Find s) := by
  unfold ref02_Find
  refine tot_bind (show Tot ref02_Words from tot_some _) fun W hW => ?_
  have hl : W.length ≤ 9223372036854775807 := by unfold ref02_Words at hW; cases hW; simp
  rw [fuel_len]
  refine tot_bind ?_ fun _ _ => tot_elim (fun _ => tot_some _) fun _ => tot_some _
  refine tot_loop1 (ref02_Find_L1 s W) W.length (fun m k hlt ih => ?_) (fun m k hlt => ?_) _ 0 (by omega) (by omega)
  · rw [ref02_Find_L1, if_pos (by simpa using hlt), idx_lt hlt, w64_succ hlt hl, obs]
    exact tot_ite (fun _ => tot_some _) fun _ => ih
  · rw [ref02_Find_L1, if_neg (by simpa using hlt)]; exact tot_some _
theorem tot_Name {s : List UInt8} (h : s.length ≤ 9223372036854775807) : Tot (ref02_Name s) := by
  unfold ref02_Name
  rw [fuel_len]
  refine tot_bind (tot_ite (fun _ => tot_some _) fun h1 => tot_ite (fun _ => tot_some _) fun _ => ?_) fun _ _ => tot_ite (fun _ => tot_some _) fun _ => tot_bind ?_ fun _ _ => tot_elim (fun _ => tot_some _) fun _ => tot_some _
  · have h0 : 0 < s.length := by simp at h1; omega
    rw [show (0 : Int) = ((0 : Nat) : Int) from rfl, idx_lt h0, obs]
    exact tot_bind (tot_Letter _) fun _ _ => tot_ite (fun _ => tot_some _) fun _ => tot_bind (tot_Find _) fun _ _ => tot_some _
  · refine tot_loop1 (ref02_Name_L1 s) s.length (fun m k hlt ih => ?_) (fun m k hlt => ?_) _ 0 (by omega) (by omega)
    · rw [ref02_Name_L1, if_pos (by simpa using hlt), idx_lt hlt, w64_succ hlt h]
      simp only [obs]
      exact tot_bind (tot_bind (tot_Letter _) fun _ _ => tot_ite (fun _ => tot_bind (tot_Digit _) fun _ _ => tot_some _) fun _ => tot_some _) fun _ _ => tot_ite (fun _ => tot_some _) fun _ => ih
    · rw [ref02_Name_L1, if_neg (by simpa using hlt)]; exact tot_some _
theorem tot_ORight (o : GOwner) (n : Int) : Tot (ref04_Right o n) := by
  unfold ref04_Right
  repeat (first | exact tot_some _ | refine tot_ite (fun _ => ?_) fun _ => ?_)
theorem tot_TRight {t : GType} (n : Int) (h : t.fClass.length ≤ 9223372036854775807) : Tot (ref05_Right t n) := by
  unfold ref05_Right
  rw [show (((4 : Int) : Int) - (0)).toNat + 1 = t.fOwn.l.length + 1 from rfl]
  refine tot_bind (tot_ite (fun _ => tot_some _) fun _ => tot_some _) fun _ _ => tot_ite (fun _ => tot_some _) fun _ => tot_bind ?_ fun _ _ => tot_ite (fun _ => tot_some _) fun _ => tot_bind ?_ fun _ _ => tot_elim (fun _ => tot_some _) fun _ => tot_some _
  · exact tot_ite (fun _ => tot_some _) fun _ => tot_bind (tot_Name h) fun _ _ => tot_ite (fun _ => tot_some _) fun _ => tot_ite (fun _ => tot_some _) fun _ => tot_some _
  · refine tot_loop1 (ref05_Right_L1 t n) t.fOwn.l.length (fun m k hlt ih => ?_) (fun m k hlt => ?_) _ 0 (by omega) (by omega)
    · have h4 : t.fOwn.l.length = 4 := rfl
      rw [ref05_Right_L1, if_pos (by simp; omega), idx_lt hlt, w64_succ hlt (by omega), obs]
      refine tot_bind ?_ fun _ _ => tot_ite (fun _ => tot_some _) fun _ => ih
      repeat (first | exact tot_some _ | exact tot_ORight _ _ | refine tot_ite (fun _ => ?_) fun _ => ?_ | refine tot_bind ?_ fun _ _ => ?_)
    · have h4 : t.fOwn.l.length = 4 := rfl
      rw [ref05_Right_L1, if_neg (by simp; omega)]; exact tot_some _
theorem tot_ESame : ∀ (n : Nat) (a b : GExpr), mGExpr a < n → n ≤ 9223372036854775807 → Tot (ref06_Same n a b)
  | 0, a, b, h, _ => by omega
  | n + 1, a, b, h, hn => by
    rw [mE_eq] at h
    have hl := len_lsum (u := mGExpr) (fun y => by rw [mE_eq]; omega) a.fKids
    simp only [ref06_Same, fuel_len]
    by_cases hk : ((a.fKids.length : Int) != (b.fKids.length : Int)) = true
    · refine tot_bind (a := _) (f := _) ?_ fun x hx => tot_ite (fun _ => tot_some _) fun hf => ?_
      · exact tot_ite (fun _ => tot_some _) fun _ => tot_ite (fun _ => tot_some _) fun _ => tot_ite (fun _ => tot_some _) fun _ => tot_some _
      · exfalso
        subst hf
        rw [hk] at hx
        revert hx
        split
        · intro h; cases h
        · split
          · intro h; cases h
          · split
            · intro h; cases h
            · intro h; cases h
    · have hlen : a.fKids.length = b.fKids.length := by simp at hk; omega
      refine tot_bind (tot_ite (fun _ => tot_some _) fun _ => tot_ite (fun _ => tot_some _) fun _ => tot_ite (fun _ => tot_some _) fun _ => tot_some _) fun _ _ => tot_ite (fun _ => tot_some _) fun _ => tot_bind ?_ fun _ _ => tot_elim (fun _ => tot_some _) fun _ => tot_some _
      refine tot_loop1 (ref06_Same_L1 a b (ref06_Same n)) a.fKids.length (fun m k hlt ih => ?_) (fun m k hlt => ?_) _ 0 (by omega) (by omega)
      · rw [ref06_Same_L1, if_pos (by simpa using hlt), idx_lt hlt, idx_lt (show k < b.fKids.length by omega), w64_succ hlt (by omega), obs, obs]
        have := lsum_mem (u := mGExpr) (List.getElem_mem hlt)
        exact tot_bind (tot_ESame n _ _ (by omega) (by omega)) fun _ _ => tot_ite (fun _ => tot_some _) fun _ => ih
      · rw [ref06_Same_L1, if_neg (by simpa using hlt)]; exact tot_some _
theorem tot_kids6 (k : Int) : Tot (ref06_kids k) := by
  unfold ref06_kids
  repeat (first | exact tot_some _ | refine tot_ite (fun _ => ?_) fun _ => ?_ | refine tot_bind ?_ fun _ _ => ?_)
theorem tot_Eform : ∀ (n : Nat) (e : GExpr), mGExpr e < n → uGExpr e ≤ 1048576 → Tot (ref06_form n e)
  | 0, e, h, _ => by omega
  | n + 1, e, h, hu => by
    rw [mE_eq] at h
    have hp := uE_p e
    have hl := len_lsum u1_E e.fKids
    have hN : Tot (ref02_Name e.fName) := tot_Name (by omega)
    simp only [ref06_form, fuel_len]
    refine tot_bind ?_ fun _ _ => tot_ite (fun _ => tot_some _) fun _ => tot_bind ?_ fun _ _ => tot_elim (fun _ => tot_some _) fun _ => tot_some _
    · repeat (first | exact tot_some _ | exact hN | exact tot_kids6 _ | refine tot_ite (fun _ => ?_) fun _ => ?_ | refine tot_bind ?_ fun _ _ => ?_)
    · refine tot_loop1 (ref06_form_L1 e (ref06_form n)) e.fKids.length (fun m k hlt ih => ?_) (fun m k hlt => ?_) _ 0 (by omega) (by omega)
      · rw [ref06_form_L1, if_pos (by simpa using hlt), idx_lt hlt, w64_succ hlt (by omega), obs, obs]
        have h1 := lsum_mem (u := mGExpr) (List.getElem_mem hlt)
        have h2 := lsum_mem (u := uGExpr) (List.getElem_mem hlt)
        refine tot_bind (tot_bind (tot_Eform n _ (by omega) (by omega)) fun _ _ => ?_) fun _ _ => tot_ite (fun _ => tot_some _) fun _ => ih
        repeat (first | exact tot_some _ | refine tot_ite (fun _ => ?_) fun _ => ?_)
      · rw [ref06_form_L1, if_neg (by simpa using hlt)]; exact tot_some _
theorem tot_EDeep : ∀ (n : Nat) (e : GExpr), mGExpr e < n → uGExpr e ≤ 1048576 → Tot (ref06_Deep n e)
  | 0, e, h, _ => by omega
  | n + 1, e, h, hu => by
    rw [mE_eq] at h
    have hp := uE_p e
    have hl := len_lsum u1_E e.fKids
    simp only [ref06_Deep, fuel_len]
    refine tot_bind ?_ fun _ _ => tot_some _
    refine tot_loop2 (ref06_Deep_L1 e (ref06_Deep n)) e.fKids.length (fun m k s hlt ih => ?_) (fun m k s hlt => ?_) _ 0 _ (by omega) (by omega)
    · rw [ref06_Deep_L1, if_pos (by simpa using hlt), idx_lt hlt, w64_succ hlt (by omega), obs]
      have h1 := lsum_mem (u := mGExpr) (List.getElem_mem hlt)
      have h2 := lsum_mem (u := uGExpr) (List.getElem_mem hlt)
      exact tot_bind (tot_EDeep n _ (by omega) (by omega)) fun _ _ => ih _
    · rw [ref06_Deep_L1, if_neg (by simpa using hlt)]; exact tot_some _
theorem tot_ERight {e : GExpr} (hu : uGExpr e ≤ 1048576) : Tot (ref06_Right e) := by
  unfold ref06_Right
  exact tot_bind (tot_Eform _ _ (by omega) hu) fun _ _ => tot_ite (fun _ => tot_bind (tot_EDeep _ _ (by omega) hu) fun _ _ => tot_some _) fun _ => tot_some _
theorem tp_Blank (s : GStmt) : TP (fun y => mGExpr y.fE ≤ mGExpr s.fE + 1) (ref08_Blank s) := by
  unfold ref08_Blank
  have b : ∀ {b : Option Bool} (_ : Tot b), TP (fun _ => True) b := fun h => tp_of h
  have e1 : mGExpr ({ fKind := 0, fNum := 0, fName := [], fKids := [] } : GExpr) = 1 := by rw [mE_eq]; rfl
  refine tp_bind (R := fun y : GStmt => mGExpr y.fE ≤ mGExpr s.fE + 1) (tp_bind (b ?_) fun x _ => tp_ite (fun _ => tp_some (by simp)) fun _ => tp_some (by simp)) fun y1 h1 => ?_
  · repeat (first | exact tot_some _ | refine tot_ite (fun _ => ?_) fun _ => ?_)
  refine tp_bind (R := fun y : GStmt => mGExpr y.fE ≤ mGExpr s.fE + 1) (tp_bind (b ?_) fun x _ => tp_ite (fun _ => tp_some h1) fun _ => tp_some h1) fun y2 h2 => ?_
  · repeat (first | exact tot_some _ | refine tot_ite (fun _ => ?_) fun _ => ?_)
  refine tp_bind (R := fun y : GStmt => mGExpr y.fE ≤ mGExpr s.fE + 1) (tp_bind (b ?_) fun x _ => tp_ite (fun _ => tp_some h2) fun _ => tp_some h2) fun y3 h3 => ?_
  · repeat (first | exact tot_some _ | refine tot_ite (fun _ => ?_) fun _ => ?_)
  refine tp_bind (R := fun y : GStmt => mGExpr y.fE ≤ mGExpr s.fE + 1) (tp_bind (b ?_) fun x _ => tp_ite (fun _ => tp_some h3) fun _ => tp_some h3) fun y4 h4 => ?_
  · repeat (first | exact tot_some _ | refine tot_ite (fun _ => ?_) fun _ => ?_)
  refine tp_bind (R := fun y : GStmt => mGExpr y.fE ≤ mGExpr s.fE + 1) (tp_bind (b ?_) fun x _ => tp_ite (fun _ => tp_some (by show mGExpr ({ fKind := 0, fNum := 0, fName := [], fKids := [] } : GExpr) ≤ _; omega)) fun _ => tp_some h4) fun y5 h5 => ?_
  · repeat (first | exact tot_some _ | refine tot_ite (fun _ => ?_) fun _ => ?_)
  refine tp_bind (R := fun y : GStmt => mGExpr y.fE ≤ mGExpr s.fE + 1) (tp_ite (fun _ => tp_some h5) fun _ => tp_some h5) fun y6 h6 => ?_
  refine tp_bind (R := fun y : GStmt => mGExpr y.fE ≤ mGExpr s.fE + 1) (tp_bind (b ?_) fun x _ => tp_ite (fun _ => tp_some h6) fun _ => tp_some h6) fun y7 h7 => ?_
  · repeat (first | exact tot_some _ | refine tot_ite (fun _ => ?_) fun _ => ?_)
  exact tp_ite (fun _ => tp_some h7) fun _ => tp_some h7
theorem tot_only {s : GStmt} (hu : uGStmt s ≤ 1048576) : Tot (ref08_only s) := by
  unfold ref08_only
  have hp := uS_p s
  have hm := mE_le s.fE
  have e1 : mGExpr ({ fKind := 0, fNum := 0, fName := [], fKids := [] } : GExpr) = 1 := by rw [mE_eq]; rfl
  refine tot_of (tp_bind (tp_Blank s) fun y hy => tp_of ?_)
  have hS : Tot (ref06_Same (mGExpr y.fE + mGExpr ({ fKind := 0, fNum := 0, fName := [], fKids := [] } : GExpr) + 1) y.fE ({ fKind := 0, fNum := 0, fName := [], fKids := [] } : GExpr)) := tot_ESame _ _ _ (by omega) (by omega)
  repeat (first | exact tot_some _ | exact hS | refine tot_ite (fun _ => ?_) fun _ => ?_ | refine tot_bind ?_ fun _ _ => ?_)
theorem tot_Snames {s : GStmt} (n : Int) (hu : uGStmt s ≤ 1048576) : Tot (ref08_names s n) := by
  unfold ref08_names
  have hp := uS_p s
  have ht := uT_p s.fType
  have h1 : Tot (ref02_Name s.fX) := tot_Name (by omega)
  have h2 : Tot (ref02_Name s.fY) := tot_Name (by omega)
  have h3 : Tot (ref02_Name s.fName) := tot_Name (by omega)
  have h4 : Tot (ref05_Right s.fType n) := tot_TRight _ (by omega)
  repeat (first | exact tot_some _ | exact h1 | exact h2 | exact h3 | exact h4 | refine tot_ite (fun _ => ?_) fun _ => ?_ | refine tot_bind ?_ fun _ _ => ?_)
theorem tot_tells {s : GStmt} (hu : uGStmt s ≤ 1048576) : Tot (ref08_tells s) := by
  unfold ref08_tells
  rw [fuel_len]
  have hp := uS_p s
  have hm := mE_le s.fE
  have hl := len_lsum u1_E s.fArgs
  have e1 : mGExpr ({ fKind := 0, fNum := 0, fName := [], fKids := [] } : GExpr) = 1 := by rw [mE_eq]; rfl
  have hS : Tot (ref06_Same (mGExpr s.fE + mGExpr ({ fKind := 0, fNum := 0, fName := [], fKids := [] } : GExpr) + 1) s.fE ({ fKind := 0, fNum := 0, fName := [], fKids := [] } : GExpr)) := tot_ESame _ _ _ (by omega) (by omega)
  have hR : Tot (ref06_Right s.fE) := tot_ERight (by omega)
  have hL : Tot (ref08_tells_L1 s (s.fArgs.length + 1) 0) := by
    refine tot_loop1 (ref08_tells_L1 s) s.fArgs.length (fun m k hlt ih => ?_) (fun m k hlt => ?_) _ 0 (by omega) (by omega)
    · rw [ref08_tells_L1, if_pos (by simpa using hlt), idx_lt hlt, w64_succ hlt (by omega), obs]
      have h2 := lsum_mem (u := uGExpr) (List.getElem_mem hlt)
      exact tot_bind (tot_ERight (by omega)) fun _ _ => tot_ite (fun _ => tot_some _) fun _ => ih
    · rw [ref08_tells_L1, if_neg (by simpa using hlt)]; exact tot_some _
  repeat (first | exact tot_some _ | exact hS | exact hR | exact hL | refine tot_ite (fun _ => ?_) fun _ => ?_ | refine tot_elim (fun _ => ?_) fun _ => ?_ | refine tot_bind ?_ fun _ _ => ?_)
theorem tot_Sform : ∀ (n : Nat) (s : GStmt) (p : Int), mGStmt s < n → uGStmt s ≤ 1048576 → Tot (ref08_form n s p)
  | 0, s, p, h, _ => by omega
  | n + 1, s, p, h, hu => by
    rw [mS_eq] at h
    have hp := uS_p s
    have hl1 := len_lsum u1_S s.fBody
    have hl2 := len_lsum u1_S s.fElse
    simp only [ref08_form, fuel_len]
    have hL1 : Tot (ref08_form_L1 s p (ref08_form n) (s.fBody.length + 1) 0) := by
      refine tot_loop1 (ref08_form_L1 s p (ref08_form n)) s.fBody.length (fun m k hlt ih => ?_) (fun m k hlt => ?_) _ 0 (by omega) (by omega)
      · rw [ref08_form_L1, if_pos (by simpa using hlt), idx_lt hlt, w64_succ hlt (by omega), obs]
        have h1 := lsum_mem (u := mGStmt) (List.getElem_mem hlt)
        have h2 := lsum_mem (u := uGStmt) (List.getElem_mem hlt)
        exact tot_bind (tot_Sform n _ _ (by omega) (by omega)) fun _ _ => tot_ite (fun _ => tot_some _) fun _ => ih
      · rw [ref08_form_L1, if_neg (by simpa using hlt)]; exact tot_some _
    have hL2 : Tot (ref08_form_L2 s p (ref08_form n) (s.fElse.length + 1) 0) := by
      refine tot_loop1 (ref08_form_L2 s p (ref08_form n)) s.fElse.length (fun m k hlt ih => ?_) (fun m k hlt => ?_) _ 0 (by omega) (by omega)
      · rw [ref08_form_L2, if_pos (by simpa using hlt), idx_lt hlt, w64_succ hlt (by omega), obs]
        have h1 := lsum_mem (u := mGStmt) (List.getElem_mem hlt)
        have h2 := lsum_mem (u := uGStmt) (List.getElem_mem hlt)
        exact tot_bind (tot_Sform n _ _ (by omega) (by omega)) fun _ _ => tot_ite (fun _ => tot_some _) fun _ => ih
      · rw [ref08_form_L2, if_neg (by simpa using hlt)]; exact tot_some _
    have h1 := tot_only hu
    have h2 := tot_Snames p hu
    have h3 := tot_tells hu
    repeat (first | exact tot_some _ | exact hL1 | exact hL2 | exact h1 | exact h2 | exact h3 | refine tot_ite (fun _ => ?_) fun _ => ?_ | refine tot_elim (fun _ => ?_) fun _ => ?_ | refine tot_bind ?_ fun _ _ => ?_)
theorem tot_SDeep : ∀ (n : Nat) (s : GStmt), mGStmt s < n → uGStmt s ≤ 1048576 → Tot (ref08_Deep n s)
  | 0, s, h, _ => by omega
  | n + 1, s, h, hu => by
    rw [mS_eq] at h
    have hp := uS_p s
    have hl1 := len_lsum u1_S s.fBody
    have hl2 := len_lsum u1_S s.fElse
    simp only [ref08_Deep, fuel_len]
    refine tot_bind ?_ fun _ _ => tot_bind ?_ fun _ _ => tot_some _
    · refine tot_loop2 (ref08_Deep_L1 s (ref08_Deep n)) s.fBody.length (fun m k x hlt ih => ?_) (fun m k x hlt => ?_) _ 0 _ (by omega) (by omega)
      · rw [ref08_Deep_L1, if_pos (by simpa using hlt), idx_lt hlt, w64_succ hlt (by omega), obs]
        have h1 := lsum_mem (u := mGStmt) (List.getElem_mem hlt)
        have h2 := lsum_mem (u := uGStmt) (List.getElem_mem hlt)
        exact tot_bind (tot_SDeep n _ (by omega) (by omega)) fun _ _ => ih _
      · rw [ref08_Deep_L1, if_neg (by simpa using hlt)]; exact tot_some _
    · refine tot_loop2 (ref08_Deep_L2 s (ref08_Deep n)) s.fElse.length (fun m k x hlt ih => ?_) (fun m k x hlt => ?_) _ 0 _ (by omega) (by omega)
      · rw [ref08_Deep_L2, if_pos (by simpa using hlt), idx_lt hlt, w64_succ hlt (by omega), obs]
        have h1 := lsum_mem (u := mGStmt) (List.getElem_mem hlt)
        have h2 := lsum_mem (u := uGStmt) (List.getElem_mem hlt)
        exact tot_bind (tot_SDeep n _ (by omega) (by omega)) fun _ _ => ih _
      · rw [ref08_Deep_L2, if_neg (by simpa using hlt)]; exact tot_some _
theorem tot_SRight {s : GStmt} (p : Int) (hu : uGStmt s ≤ 1048576) : Tot (ref08_Right s p) := by
  unfold ref08_Right
  exact tot_bind (tot_Sform _ _ _ (by omega) hu) fun _ _ => tot_ite (fun _ => tot_bind (tot_SDeep _ _ (by omega) hu) fun _ _ => tot_some _) fun _ => tot_some _
theorem tot_written {t : GType} (p : Int) (hu : uGType t ≤ 1048576) : Tot (ref10_written t p) := by
  unfold ref10_written
  have := uT_p t
  have h1 : Tot (ref05_Right t p) := tot_TRight _ (by omega)
  repeat (first | exact tot_some _ | exact h1 | refine tot_ite (fun _ => ?_) fun _ => ?_ | refine tot_bind ?_ fun _ _ => ?_)
theorem tot_vars {l : List GVar} (m p : Int) (hu : lsum uGVar l ≤ 1048576) : Tot (ref10_vars l m p) := by
  unfold ref10_vars
  rw [fuel_len]
  have hl := len_lsum u1_V l
  refine tot_bind ?_ fun _ _ => tot_elim (fun _ => tot_some _) fun _ => tot_some _
  refine tot_loop1 (ref10_vars_L1 l p) l.length (fun m k hlt ih => ?_) (fun m k hlt => ?_) _ 0 (by omega) (by omega)
  · rw [ref10_vars_L1, if_pos (by simpa using hlt), idx_lt hlt, w64_succ hlt (by omega), obs, obs, obs]
    have h2 := lsum_mem (u := uGVar) (List.getElem_mem hlt)
    have h3 := uV_p l[k]
    exact tot_bind (tot_bind (tot_Name (by omega)) fun _ _ => tot_ite (fun _ => tot_some _) fun _ => tot_ite (fun _ => tot_some _) fun _ => tot_bind (tot_written _ (by omega)) fun _ _ => tot_some _) fun _ _ => tot_ite (fun _ => tot_some _) fun _ => ih
  · rw [ref10_vars_L1, if_neg (by simpa using hlt)]; exact tot_some _
theorem tot_open : ∀ (n : Nat) (l : List GStmt) (p : Int), mLGStmt l < n → lsum uGStmt l ≤ 1048576 → Tot (ref10_open n l p)
  | 0, l, p, h, _ => by omega
  | n + 1, l, p, h, hu => by
    have hl := len_lsum u1_S l
    rw [mLS_sum] at h
    simp only [ref10_open, fuel_len]
    refine tot_bind ?_ fun _ _ => tot_elim (fun _ => tot_some _) fun _ => tot_some _
    refine tot_loop1 (ref10_open_L1 l p (ref10_open n)) l.length (fun m k hlt ih => ?_) (fun m k hlt => ?_) _ 0 (by omega) (by omega)
    · rw [ref10_open_L1, if_pos (by simpa using hlt), idx_lt hlt, w64_succ hlt (by omega)]
      simp only [obs]
      have h1 := lsum_mem (u := mGStmt) (List.getElem_mem hlt)
      have h2 := lsum_mem (u := uGStmt) (List.getElem_mem hlt)
      have h3 := uS_p l[k]
      rw [mS_eq] at h1
      have o1 : Tot (ref10_open n l[k].fBody p) := tot_open n _ _ (by rw [mLS_sum]; omega) (by omega)
      have o2 : Tot (ref10_open n l[k].fElse p) := tot_open n _ _ (by rw [mLS_sum]; omega) (by omega)
      have o3 : Tot (ref10_written l[k].fType p) := tot_written _ (by omega)
      refine tot_bind ?_ fun _ _ => tot_ite (fun _ => tot_some _) fun _ => ih
      repeat (first | exact tot_some _ | exact o1 | exact o2 | exact o3 | refine tot_ite (fun _ => ?_) fun _ => ?_ | refine tot_bind ?_ fun _ _ => ?_)
    · rw [ref10_open_L1, if_neg (by simpa using hlt)]; exact tot_some _
theorem tot_method10 {m : GMethod} (p : Int) (hu : uGMethod m ≤ 1048576) : Tot (ref10_method m p) := by
  unfold ref10_method
  rw [fuel_len]
  have hp := uM_p m
  have hl := len_lsum u1_S m.fBody
  have hL : Tot (ref10_method_L1 m p (m.fBody.length + 1) 0) := by
    refine tot_loop1 (ref10_method_L1 m p) m.fBody.length (fun n k hlt ih => ?_) (fun n k hlt => ?_) _ 0 (by omega) (by omega)
    · rw [ref10_method_L1, if_pos (by simpa using hlt), idx_lt hlt, w64_succ hlt (by omega), obs]
      have h2 := lsum_mem (u := uGStmt) (List.getElem_mem hlt)
      exact tot_bind (tot_SRight _ (by omega)) fun _ _ => tot_ite (fun _ => tot_some _) fun _ => ih
    · rw [ref10_method_L1, if_neg (by simpa using hlt)]; exact tot_some _
  have h1 : Tot (ref02_Name m.fName) := tot_Name (by omega)
  have h2 : Tot (ref10_written m.fRet p) := tot_written _ (by omega)
  have h3 : Tot (ref10_vars m.fParams 5 p) := tot_vars _ _ (by omega)
  have h4 : Tot (ref10_vars m.fLocals 12 p) := tot_vars _ _ (by omega)
  have h5 : Tot (ref10_open (mLGStmt m.fBody + 1) m.fBody p) := tot_open _ _ _ (by omega) (by omega)
  repeat (first | exact tot_some _ | exact hL | exact h1 | exact h2 | exact h3 | exact h4 | exact h5 | refine tot_ite (fun _ => ?_) fun _ => ?_ | refine tot_elim (fun _ => ?_) fun _ => ?_ | refine tot_bind ?_ fun _ _ => ?_)
theorem tot_class10 {c : GClass} (hu : uGClass c ≤ 1048576) : Tot (ref10_class c) := by
  unfold ref10_class
  rw [fuel_len, fuel_len, fuel_len]
  have hp := uC_p c
  have hl1 := len_lsum u1_str c.fParams
  have hl2 := len_lsum u1_O c.fAbove
  have hl3 := len_lsum u1_M c.fMethods
  have hL1 : Tot (ref10_class_L1 c (c.fParams.length + 1) 0) := by
    refine tot_loop1 (ref10_class_L1 c) c.fParams.length (fun n k hlt ih => ?_) (fun n k hlt => ?_) _ 0 (by omega) (by omega)
    · rw [ref10_class_L1, if_pos (by simpa using hlt), idx_lt hlt, w64_succ hlt (by omega), obs]
      have h2 := lsum_mem (u := fun s => List.length s + 1) (List.getElem_mem hlt)
      exact tot_bind (tot_Name (by omega)) fun _ _ => tot_ite (fun _ => tot_some _) fun _ => ih
    · rw [ref10_class_L1, if_neg (by simpa using hlt)]; exact tot_some _
  have hL2 : Tot (ref10_class_L2 c (c.fAbove.length + 1) 0) := by
    refine tot_loop1 (ref10_class_L2 c) c.fAbove.length (fun n k hlt ih => ?_) (fun n k hlt => ?_) _ 0 (by omega) (by omega)
    · rw [ref10_class_L2, if_pos (by simpa using hlt), idx_lt hlt, w64_succ hlt (by omega), obs, obs]
      refine tot_bind (tot_bind (tot_ORight _ _) fun _ _ => ?_) fun _ _ => tot_ite (fun _ => tot_some _) fun _ => ih
      repeat (first | exact tot_some _ | refine tot_ite (fun _ => ?_) fun _ => ?_)
    · rw [ref10_class_L2, if_neg (by simpa using hlt)]; exact tot_some _
  have hL3 : Tot (ref10_class_L3 c (c.fMethods.length + 1) 0) := by
    refine tot_loop1 (ref10_class_L3 c) c.fMethods.length (fun n k hlt ih => ?_) (fun n k hlt => ?_) _ 0 (by omega) (by omega)
    · rw [ref10_class_L3, if_pos (by simpa using hlt), idx_lt hlt, w64_succ hlt (by omega), obs]
      have h2 := lsum_mem (u := uGMethod) (List.getElem_mem hlt)
      exact tot_bind (tot_method10 _ (by omega)) fun _ _ => tot_ite (fun _ => tot_some _) fun _ => ih
    · rw [ref10_class_L3, if_neg (by simpa using hlt)]; exact tot_some _
  have h1 : Tot (ref02_Name c.fName) := tot_Name (by omega)
  have h2 : Tot (ref02_Name c.fSuper) := tot_Name (by omega)
  have h3 : Tot (ref10_vars c.fFields 12 (c.fParams.length : Int)) := tot_vars _ _ (by omega)
  repeat (first | exact tot_some _ | exact hL1 | exact hL2 | exact hL3 | exact h1 | exact h2 | exact h3 | refine tot_ite (fun _ => ?_) fun _ => ?_ | refine tot_elim (fun _ => ?_) fun _ => ?_ | refine tot_bind ?_ fun _ _ => ?_)
theorem tot_SSize : ∀ (n : Nat) (s : GStmt), mGStmt s < n → uGStmt s ≤ 1048576 → Tot (ref08_Size n s)
  | 0, s, h, _ => by omega
  | n + 1, s, h, hu => by
    rw [mS_eq] at h
    have hp := uS_p s
    have hl1 := len_lsum u1_S s.fBody
    have hl2 := len_lsum u1_S s.fElse
    simp only [ref08_Size, fuel_len]
    refine tot_bind ?_ fun _ _ => tot_bind ?_ fun _ _ => tot_some _
    · refine tot_loop2 (ref08_Size_L1 s (ref08_Size n)) s.fBody.length (fun m k x hlt ih => ?_) (fun m k x hlt => ?_) _ 0 _ (by omega) (by omega)
      · rw [ref08_Size_L1, if_pos (by simpa using hlt), idx_lt hlt, w64_succ hlt (by omega), obs]
        have h1 := lsum_mem (u := mGStmt) (List.getElem_mem hlt)
        have h2 := lsum_mem (u := uGStmt) (List.getElem_mem hlt)
        exact tot_bind (tot_SSize n _ (by omega) (by omega)) fun _ _ => ih _
      · rw [ref08_Size_L1, if_neg (by simpa using hlt)]; exact tot_some _
    · refine tot_loop2 (ref08_Size_L2 s (ref08_Size n)) s.fElse.length (fun m k x hlt ih => ?_) (fun m k x hlt => ?_) _ 0 _ (by omega) (by omega)
      · rw [ref08_Size_L2, if_pos (by simpa using hlt), idx_lt hlt, w64_succ hlt (by omega), obs]
        have h1 := lsum_mem (u := mGStmt) (List.getElem_mem hlt)
        have h2 := lsum_mem (u := uGStmt) (List.getElem_mem hlt)
        exact tot_bind (tot_SSize n _ (by omega) (by omega)) fun _ _ => ih _
      · rw [ref08_Size_L2, if_neg (by simpa using hlt)]; exact tot_some _
theorem tot_Stmts {c : GClass} (hu : uGClass c ≤ 1048576) : Tot (ref09_Stmts c) := by
  unfold ref09_Stmts
  rw [fuel_len]
  have hp := uC_p c
  have hl3 := len_lsum u1_M c.fMethods
  refine tot_bind ?_ fun _ _ => tot_some _
  refine tot_loop2 (ref09_Stmts_L1 c) c.fMethods.length (fun n k x hlt ih => ?_) (fun n k x hlt => ?_) _ 0 _ (by omega) (by omega)
  · rw [ref09_Stmts_L1, if_pos (by simpa using hlt), w64_succ hlt (by omega), idx_lt hlt, obs, Option.getD_some, fuel_len]
    have h2 := lsum_mem (u := uGMethod) (List.getElem_mem hlt)
    have h3 := uM_p c.fMethods[k]
    have hl := len_lsum u1_S c.fMethods[k].fBody
    refine tot_bind ?_ fun _ _ => ih _
    refine tot_loop2 (ref09_Stmts_L2 c (k : Int)) c.fMethods[k].fBody.length (fun m j y hj ih2 => ?_) (fun m j y hj => ?_) _ 0 _ (by omega) (by omega)
    · rw [ref09_Stmts_L2, idx_lt hlt, obs, if_pos (by simpa using hj), obs, idx_lt hj, obs, w64_succ hj (by omega)]
      have h4 := lsum_mem (u := uGStmt) (List.getElem_mem hj)
      exact tot_bind (tot_SSize _ _ (by omega) (by omega)) fun _ _ => ih2 _
    · rw [ref09_Stmts_L2, idx_lt hlt, obs, if_neg (by simpa using hj)]; exact tot_some _
  · rw [ref09_Stmts_L1, if_neg (by simpa using hlt)]; exact tot_some _
theorem tot_Right10 {p : List GClass} (hu : lsum uGClass p ≤ 1048576) : Tot (ref10_Right p) := by
  unfold ref10_Right
  rw [fuel_len]
  have hl := len_lsum u1_C p
  refine tot_bind ?_ fun _ _ => tot_elim (fun _ => tot_some _) fun _ => tot_some _
  refine tot_loop2 (ref10_Right_L1 p) p.length (fun n k x hlt ih => ?_) (fun n k x hlt => ?_) _ 0 _ (by omega) (by omega)
  · rw [ref10_Right_L1, if_pos (by simpa using hlt), w64_succ hlt (by omega), idx_lt hlt]
    simp only [obs]
    have h2 := lsum_mem (u := uGClass) (List.getElem_mem hlt)
    exact tot_bind (tot_ite (fun _ => tot_some _) fun _ => tot_bind (tot_class10 (by omega)) fun _ _ => tot_some _) fun _ _ => tot_ite (fun _ => tot_some _) fun _ => tot_bind (tot_Stmts (by omega)) fun _ _ => ih _
  · rw [ref10_Right_L1, if_neg (by simpa using hlt)]; exact tot_some _

/-! ### The types of a program; what is wrong with it: never a failure, where it counts little. -/
theorem room_u {n m b : Int} (h : n + m ≤ 10000000) (h0 : 0 ≤ n + m) (hb : 0 ≤ b) (hb2 : b ≤ 1000) : room (n + m) b = some () := by
  refine room_ok ?_
  refine Int.le_trans (Int.mul_le_mul_of_nonneg_right h hb) ?_
  refine Int.le_trans (Int.mul_le_mul_of_nonneg_left hb2 (by omega)) ?_
  omega
theorem tp_lines : ∀ (n : Nat) (l : List GStmt) (x : GLine_ref12), mLGStmt l < n → lsum uGStmt l ≤ 1048576 → TP (fun r => r.length ≤ lsum uGStmt l) (ref12_lines n l x)
  | 0, l, x, h, _ => by omega
  | n + 1, l, x, h, hu => by
    have hl := len_lsum u1_S l
    rw [mLS_sum] at h
    simp only [ref12_lines, fuel_len]
    refine tp_bind (R := fun r => r.length ≤ lsum uGStmt l) ?_ fun r hr => tp_some hr
    refine tp_loop (ref12_lines_L1 l x (ref12_lines n)) l.length (fun k s => s.length + lsum uGStmt (l.drop k) ≤ lsum uGStmt l) (fun m k s hlt hi ih => ?_) (fun m s hi => ?_) _ 0 _ (by omega) (by omega) (by simp)
    · rw [ref12_lines_L1, if_pos (by simpa using hlt), idx_lt hlt, w64_succ hlt (by omega)]
      simp only [obs]
      have h1 := lsum_mem (u := mGStmt) (List.getElem_mem hlt)
      have h3 := uS_p l[k]
      have h4 := lsum_drop uGStmt hlt
      rw [mS_eq] at h1
      rw [room_u (by rw [List.length_singleton]; omega) (by omega) (by omega) (by omega), obs]
      refine tp_bind (tp_lines n _ _ (by rw [mLS_sum]; omega) (by omega)) fun y hy => ?_
      rw [room_u (by rw [List.length_append, List.length_singleton]; omega) (by omega) (by omega) (by omega), obs]
      refine tp_bind (tp_lines n _ _ (by rw [mLS_sum]; omega) (by omega)) fun z hz => ?_
      rw [room_u (by rw [List.length_append, List.length_append, List.length_singleton]; omega) (by omega) (by omega) (by omega), obs]
      exact ih _ (by simp only [List.length_append, List.length_singleton]; omega)
    · rw [ref12_lines_L1, if_neg (by simp)]
      rw [List.drop_eq_nil_of_le (Nat.le_refl _)] at hi
      exact tp_some (by simpa [lsum] using hi)
theorem tp_Vars12 {m : GMethod} (hu : uGMethod m ≤ 1048576) : TP (fun r => r = m.fParams ++ m.fLocals) (ref12_Vars m) := by
  unfold ref12_Vars
  have hp := uM_p m
  have hl1 := len_lsum u1_V m.fParams
  have hl2 := len_lsum u1_V m.fLocals
  rw [room_u (by simp; omega) (by omega) (by omega) (by omega), obs, room_u (by simp; omega) (by omega) (by omega) (by omega), obs]
  exact tp_some (by simp)
theorem tp_Types {p : List GClass} (hu : lsum uGClass p ≤ 1048576) : TP (fun r => r.length ≤ lsum uGClass p) (ref12_Types p) := by
  unfold ref12_Types
  rw [fuel_len]
  have hl := len_lsum u1_C p
  refine tp_bind (R := fun r => r.length ≤ lsum uGClass p) ?_ fun r hr => tp_some hr
  refine tp_loop (ref12_Types_L1 p) p.length (fun k s => s.length + lsum uGClass (p.drop k) ≤ lsum uGClass p) (fun m i s hlt hi ih => ?_) (fun m s hi => ?_) _ 0 _ (by omega) (by omega) (by simp)
  · rw [ref12_Types_L1, if_pos (by simpa using hlt), idx_lt hlt, w64_succ hlt (by omega)]
    simp only [obs, Option.getD_some, fuel_len]
    have hd := lsum_drop uGClass hlt
    have hc := uC_p p[i]
    have hlf := len_lsum u1_V p[i].fFields
    have hlm := len_lsum u1_M p[i].fMethods
    refine tp_bind (R := fun r => r.length ≤ s.length + p[i].fFields.length) ?_ fun s1 hs1 => ?_
    · refine tp_loop (ref12_Types_L2 p (i : Int)) p[i].fFields.length (fun k t => t.length ≤ s.length + k) (fun m k t hk ht ih2 => ?_) (fun m t ht => ?_) _ 0 _ (by omega) (by omega) (by omega)
      · rw [ref12_Types_L2, idx_lt hlt, obs, if_pos (by simpa using hk), obs, idx_lt hk, obs, w64_succ hk (by omega), room_u (by rw [List.length_singleton]; omega) (by omega) (by omega) (by omega), obs]
        exact ih2 _ (by rw [List.length_append, List.length_singleton]; omega)
      · rw [ref12_Types_L2, idx_lt hlt, obs, if_neg (by simp)]
        exact tp_some ht
    · refine tp_bind (R := fun r => r.length ≤ s1.length + lsum uGMethod p[i].fMethods) ?_ fun s2 hs2 => ih _ (by omega)
      refine tp_loop (ref12_Types_L3 p (i : Int)) p[i].fMethods.length (fun k t => t.length + lsum uGMethod (p[i].fMethods.drop k) ≤ s1.length + lsum uGMethod p[i].fMethods) (fun m k t hk ht ih2 => ?_) (fun m t ht => ?_) _ 0 _ (by omega) (by omega) (by simp)
      · rw [ref12_Types_L3, idx_lt hlt, obs, if_pos (by simpa using hk), obs, idx_lt hk, obs, w64_succ hk (by omega)]
        have hdm := lsum_drop uGMethod hk
        have hm := uM_p p[i].fMethods[k]
        have hlp := len_lsum u1_V p[i].fMethods[k].fParams
        have hll := len_lsum u1_V p[i].fMethods[k].fLocals
        rw [room_u (by rw [List.length_singleton]; omega) (by omega) (by omega) (by omega), obs]
        refine tp_bind (tp_Vars12 (by omega)) fun v hv => ?_
        have hvl : v.length = p[i].fMethods[k].fParams.length + p[i].fMethods[k].fLocals.length := by rw [hv, List.length_append]
        rw [fuel_len]
        refine tp_bind (R := fun r => r.length ≤ t.length + 1 + v.length) ?_ fun t1 ht1 => ?_
        · refine tp_loop (ref12_Types_L4 (i : Int) (k : Int) v) v.length (fun j y => y.length ≤ t.length + 1 + j) (fun m j y hj hy ih3 => ?_) (fun m y hy => ?_) _ 0 _ (by omega) (by omega) (by simp)
          · rw [ref12_Types_L4, if_pos (by simpa using hj), idx_lt hj, obs, obs, w64_succ hj (by omega), room_u (by rw [List.length_singleton]; omega) (by omega) (by omega) (by omega), obs]
            exact ih3 _ (by rw [List.length_append, List.length_singleton]; omega)
          · rw [ref12_Types_L4, if_neg (by simp)]
            exact tp_some hy
        · refine tp_bind (tp_lines _ _ _ (by omega) (by omega)) fun ls hls => ?_
          rw [fuel_len]
          refine tp_bind (R := fun r => r.length ≤ t1.length + ls.length) ?_ fun t2 ht2 => ih2 _ (by omega)
          refine tp_loop (ref12_Types_L5 (i : Int) (k : Int) ls) ls.length (fun j y => y.length ≤ t1.length + j) (fun m j y hj hy ih3 => ?_) (fun m y hy => ?_) _ 0 _ (by omega) (by omega) (by simp)
          · rw [ref12_Types_L5, if_pos (by simpa using hj), idx_lt hj, obs, w64_succ hj (by omega)]
            refine tp_bind (R := fun r => r.length ≤ y.length + 1) (tp_ite (fun _ => ?_) fun _ => tp_some (by omega)) fun y2 hy2 => ih3 _ (by omega)
            rw [obs, obs, room_u (by rw [List.length_singleton]; omega) (by omega) (by omega) (by omega), obs]
            exact tp_some (by rw [List.length_append, List.length_singleton]; omega)
          · rw [ref12_Types_L5, if_neg (by simp)]
            exact tp_some hy
      · rw [ref12_Types_L3, idx_lt hlt, obs, if_neg (by simp)]
        rw [List.drop_eq_nil_of_le (Nat.le_refl _)] at ht
        exact tp_some (by simpa [lsum] using ht)
  · rw [ref12_Types_L1, if_neg (by simp)]
    rw [List.drop_eq_nil_of_le (Nat.le_refl _)] at hi
    exact tp_some (by simpa [lsum] using hi)
theorem tot_Arity13 {p : List GClass} (hp : p.length < 9223372036854775806) (name : List UInt8) : Tot (ref13_Arity p name) := by
  unfold ref13_Arity
  rw [ref13_Find_eq hp, obs]
  cases hf : fi p name with
  | none => rw [fnd_none hf, if_pos (by simp)]; exact tot_some _
  | some i => rw [fnd_some hf, if_neg (by simp), idx_lt (fi_lt hf), obs]; exact tot_some _
theorem tot_fault13 (a b : Int) : ref13_fault a b = some ⟨a, b⟩ := rfl
theorem lsum_take_le {α : Type} (u : α → Nat) : ∀ (l : List α) (a b : Nat), lsum u ((l.take b).drop a) ≤ lsum u l
  | [], a, b => by simp [lsum]
  | x :: l, a, 0 => by simp [lsum]
  | x :: l, 0, b + 1 => by have := lsum_take_le u l 0 b; simp only [List.drop_zero] at this; simp only [List.take_succ_cons, List.drop_zero, lsum]; omega
  | x :: l, a + 1, b + 1 => by have := lsum_take_le u l a b; simp only [List.take_succ_cons, List.drop_succ_cons, lsum]; omega
theorem tot_types13 {p : List GClass} (hu : lsum uGClass p ≤ 1048576) {i : Nat} (hi : i < p.length) : Tot (ref13_types p (i : Int)) := by
  unfold ref13_types
  have hl := len_lsum u1_C p
  rw [w64_succ hi (by omega)]
  have hcut : cutL p (i : Int) ((i + 1 : Nat) : Int) = some ((p.take (i + 1)).drop i) := by unfold cutL; rw [if_pos ⟨by omega, by omega, by omega⟩]; simp
  rw [hcut, obs]
  have hs := lsum_take_le uGClass p i (i + 1)
  refine tot_of (tp_bind (tp_Types (by omega)) fun ns hns => tp_of ?_)
  rw [fuel_len]
  refine tot_bind ?_ fun _ _ => tot_elim (fun _ => tot_some _) fun _ => tot_some _
  refine tot_loop1 (ref13_types_L1 p ns) ns.length (fun n k hlt ih => ?_) (fun n k hlt => ?_) _ 0 (by omega) (by omega)
  · rw [ref13_types_L1, if_pos (by simpa using hlt), idx_lt hlt, w64_succ hlt (by omega)]
    obtain ⟨ar, har⟩ := tot_Arity13 (p := p) (by omega) ns[k].fType.fClass
    simp only [obind, har, tot_fault13]
    by_cases h1 : (ns[k].fType.fKind != 2) = true
    · rw [if_pos h1]; exact ih
    · rw [if_neg h1]
      by_cases h2 : (decide (ar < 0)) = true
      · rw [if_pos h2]; exact tot_some _
      · rw [if_neg h2]
        by_cases h3 : (ns[k].fType.fN != 0) = true
        · rw [if_pos h3]
          simp only
          by_cases h4 : (ns[k].fType.fN != ar) = true
          · rw [if_pos h4]; exact tot_some _
          · rw [if_neg h4]; exact ih
        · rw [if_neg h3]
          simp only
          rw [if_neg (by simp)]; exact ih
  · rw [ref13_types_L1, if_neg (by simpa using hlt)]; exact tot_some _
theorem tp_names13 {l : List GVar} (hu : l.length ≤ 1048576) : TP (fun r => r = l.map (·.fName)) (ref13_names l) := by
  unfold ref13_names
  rw [foldL (ref13_names_L1 l) (l := l) (by omega) (f := fun s y => Option.bind (room ((s.length : Int) + ([y.fName].length : Int)) 16) fun _ => some (s ++ [y.fName])) (fin := some) (fun n s x => by
    rw [ref13_names_L1]
    by_cases h : decide (x < (l.length : Int)) = true
    · rw [if_pos h, if_pos h]
      cases idx l x with
      | none => simp only [Option.bind_none]
      | some y =>
        rw [obs, obs]
        cases room ((s.length : Int) + ([y.fName].length : Int)) 16 with
        | none => simp only [Option.bind_none]
        | some u => simp only [obs]
    · rw [if_neg h, if_neg h]), foldO_room _ (·.fName) 2000000 (fun s y hs => by
    rw [List.length_singleton, room_u (by omega) (by omega) (by omega) (by omega), obs]) l [] (by rw [List.length_nil]; omega)]
  exact tp_some (by simp)
/-- A name that stands ahead of itself. -/
theorem tp_Twice {l : List (List UInt8)} (hl : l.length ≤ 9223372036854775806) : TP (fun r => r < (l.length : Int)) (ref13_Twice l) := by
  unfold ref13_Twice
  rw [fuel_len]
  refine tp_bind (R := fun c => ∀ v, c = Ctl.stop v → v < (l.length : Int)) ?_ fun c hc => ?_
  · have := tp_loop (σ := Unit) (Q := fun c : Ctl Int Unit => ∀ v, c = Ctl.stop v → v < (l.length : Int)) (fun n _ x => ref13_Twice_L1 l n x) l.length (fun _ _ => True) (fun n k _ hlt _ ih => ?_) (fun n _ _ => ?_) (l.length + 1) 0 () (by omega) (by omega) trivial
    · exact this
    · show TP _ (ref13_Twice_L1 l (n + 1) (k : Int))
      rw [ref13_Twice_L1, if_pos (by simpa using hlt), w64_succ hlt (by omega), fuel_len]
      refine tp_bind (R := fun c => ∀ v, c = Ctl.stop v → v = (k : Int)) ?_ fun c hc => ?_
      · have h2 := tp_loop (σ := Unit) (Q := fun c : Ctl Int Unit => ∀ v, c = Ctl.stop v → v = (k : Int)) (fun n _ x => ref13_Twice_L2 l (k : Int) n x) k (fun _ _ => True) (fun m j _ hj _ ih2 => ?_) (fun m _ _ => ?_) (k + 1) 0 () (by omega) (by omega) trivial
        · exact h2
        · show TP _ (ref13_Twice_L2 l (k : Int) (m + 1) (j : Int))
          rw [ref13_Twice_L2, if_pos (by simpa using hj), idx_lt (show j < l.length by omega), idx_lt hlt, obs, obs, w64_succ hj (by omega)]
          exact tp_ite (fun _ => tp_some (by intro v hv; cases hv; rfl)) fun _ => ih2 () trivial
        · show TP _ (ref13_Twice_L2 l (k : Int) (m + 1) (k : Int))
          rw [ref13_Twice_L2, if_neg (by simp)]
          exact tp_some (by intro v hv; cases hv)
      · cases c with
        | stop v => exact tp_some (by intro w hw; cases hw; rw [hc v rfl]; omega)
        | next u => exact ih () trivial
    · show TP _ (ref13_Twice_L1 l (n + 1) (l.length : Int))
      rw [ref13_Twice_L1, if_neg (by simp)]
      exact tp_some (by intro v hv; cases hv)
  · cases c with
    | stop v => exact tp_some (hc v rfl)
    | next u => exact tp_some (by omega)
theorem tot_class13 {p : List GClass} (hu : lsum uGClass p ≤ 1048576) {i : Nat} (hi : i < p.length) : Tot (ref13_class p (i : Int)) := by
  have hl := len_lsum u1_C p
  have hm := lsum_mem (u := uGClass) (List.getElem_mem hi)
  have hc := uC_p p[i]
  have hlp := len_lsum u1_str p[i].fParams
  have hlf := len_lsum u1_V p[i].fFields
  have hlm := len_lsum u1_M p[i].fMethods
  unfold ref13_class
  rw [idx_lt hi, obs, fuel_len]
  have hF1 : Tot (ref13_Find p p[i].fName) := by rw [ref13_Find_eq (by omega)]; exact tot_some _
  have hF2 : Tot (ref13_Find p p[i].fSuper) := by rw [ref13_Find_eq (by omega)]; exact tot_some _
  have hA : Tot (ref13_Arity p p[i].fSuper) := tot_Arity13 (by omega) _
  have hT : Tot (ref13_Twice p[i].fParams) := tot_of (tp_Twice (by omega))
  have hY : Tot (ref13_types p (i : Int)) := tot_types13 hu hi
  have hL : Tot (ref13_class_L1 p[i] (p[i].fMethods.length + 1) [] 0) := by
    refine tot_of (tp_loop (Q := fun _ => True) (ref13_class_L1 p[i]) p[i].fMethods.length (fun k s => s.length ≤ k) (fun m k s hk hs ih => ?_) (fun m s hs => ?_) _ 0 _ (by omega) (by omega) (by simp))
    · rw [ref13_class_L1, if_pos (by simpa using hk), idx_lt hk, obs, w64_succ hk (by omega), room_u (by rw [List.length_singleton]; omega) (by omega) (by omega) (by omega), obs]
      have hmm := lsum_mem (u := uGMethod) (List.getElem_mem hk)
      have hmp := uM_p p[i].fMethods[k]
      have h1 := len_lsum u1_V p[i].fMethods[k].fParams
      have h2 := len_lsum u1_V p[i].fMethods[k].fLocals
      refine tp_bind (tp_of (tot_of (tp_Twice (by rw [List.length_append, List.length_singleton]; omega)))) fun _ _ => tp_ite (fun _ => ?_) fun _ => ?_
      · rw [tot_fault13, obs]; exact tp_some trivial
      · refine tp_bind (tp_Vars12 (by omega)) fun v hv => tp_bind (tp_names13 (l := v) (by rw [hv, List.length_append]; omega)) fun ns hns => tp_bind (tp_Twice (by rw [hns, hv, List.length_map, List.length_append]; omega)) fun t ht => tp_ite (fun h0 => ?_) fun _ => ih _ (by rw [List.length_append, List.length_singleton]; omega)
        rw [hns, List.length_map] at ht
        rw [idx_in (by simpa using h0) ht, obs, tot_fault13, obs]
        exact tp_some trivial
    · rw [ref13_class_L1, if_neg (by simp)]; exact tp_some trivial
  refine tot_bind (tot_bind hF1 fun _ _ => tot_ite (fun _ => tot_some _) fun _ => tot_bind hT fun _ _ => tot_some _) fun _ _ => tot_ite (fun _ => tot_some _) fun _ => ?_
  refine tot_bind (tot_ite (fun _ => tot_bind hF2 fun _ _ => tot_some _) fun _ => tot_some _) fun _ _ => tot_ite (fun _ => tot_some _) fun _ => ?_
  refine tot_bind (tot_ite (fun _ => tot_bind hA fun _ _ => tot_some _) fun _ => tot_some _) fun _ _ => tot_ite (fun _ => tot_some _) fun _ => ?_
  refine tot_bind hY fun _ _ => tot_ite (fun _ => tot_some _) fun _ => tot_of (Q := fun _ => True) ?_
  refine tp_bind (tp_names13 (l := p[i].fFields) (by omega)) fun ns hns => tp_bind (tp_Twice (by rw [hns, List.length_map]; omega)) fun t ht => tp_ite (fun h0 => ?_) fun _ => tp_of ?_
  · rw [hns, List.length_map] at ht
    rw [idx_in (by simpa using h0) ht, obs, tot_fault13, obs]
    exact tp_some trivial
  · exact tot_bind hL fun _ _ => tot_elim (fun _ => tot_some _) fun _ => tot_some _
theorem tot_Check13 {p : List GClass} (hu : lsum uGClass p ≤ 1048576) : Tot (ref13_Check p) := by
  have hl := len_lsum u1_C p
  unfold ref13_Check
  rw [fuel_len]
  refine tot_bind (tot_Right10 hu) fun _ _ => tot_ite (fun _ => by rw [tot_fault13, obs]; exact tot_some _) fun _ => tot_bind ?_ fun _ _ => tot_elim (fun _ => tot_some _) fun _ => tot_some _
  refine tot_loop1 (ref13_Check_L1 p) p.length (fun n k hlt ih => ?_) (fun n k hlt => ?_) _ 0 (by omega) (by omega)
  · rw [ref13_Check_L1, if_pos (by simpa using hlt), w64_succ hlt (by omega)]
    exact tot_bind (tot_class13 hu hlt) fun _ _ => tot_ite (fun _ => tot_some _) fun _ => ih
  · rw [ref13_Check_L1, if_neg (by simpa using hlt)]; exact tot_some _

/-! ### What a program is in which nothing is wrong. -/
theorem cls_L1_stop (c : GClass) : ∀ (n : Nat) (x : Int) (v : Bool), ref10_class_L1 c n x = some (.stop v) → v = false
  | 0, x, v, h => by simp [ref10_class_L1] at h
  | n + 1, x, v, h => by
    rw [ref10_class_L1] at h
    rcases ite_some h with ⟨_, h⟩ | ⟨_, h⟩
    · obtain ⟨_, _, h⟩ := bind_some h
      obtain ⟨_, _, h⟩ := bind_some h
      rcases ite_some h with ⟨_, h⟩ | ⟨_, h⟩
      · cases h; rfl
      · exact cls_L1_stop c n _ v h
    · cases h
theorem cls_L2_stop (c : GClass) : ∀ (n : Nat) (x : Int) (v : Bool), ref10_class_L2 c n x = some (.stop v) → v = false
  | 0, x, v, h => by simp [ref10_class_L2] at h
  | n + 1, x, v, h => by
    rw [ref10_class_L2] at h
    rcases ite_some h with ⟨_, h⟩ | ⟨_, h⟩
    · obtain ⟨_, _, h⟩ := bind_some h
      obtain ⟨_, _, h⟩ := bind_some h
      rcases ite_some h with ⟨_, h⟩ | ⟨_, h⟩
      · cases h; rfl
      · exact cls_L2_stop c n _ v h
    · cases h
theorem cls_L3_stop (c : GClass) : ∀ (n : Nat) (x : Int) (v : Bool), ref10_class_L3 c n x = some (.stop v) → v = false
  | 0, x, v, h => by simp [ref10_class_L3] at h
  | n + 1, x, v, h => by
    rw [ref10_class_L3] at h
    rcases ite_some h with ⟨_, h⟩ | ⟨_, h⟩
    · obtain ⟨_, _, h⟩ := bind_some h
      obtain ⟨_, _, h⟩ := bind_some h
      rcases ite_some h with ⟨_, h⟩ | ⟨_, h⟩
      · cases h; rfl
      · exact cls_L3_stop c n _ v h
    · cases h
theorem cls_params {c : GClass} (h : ref10_class c = some true) : c.fParams.length ≤ 3 := by
  unfold ref10_class at h
  obtain ⟨r1, e1, h⟩ := bind_some h
  cases r1 with
  | stop v => have := cls_L1_stop c _ _ v e1; subst this; cases h
  | next u1 =>
    obtain ⟨r2, e2, h⟩ := bind_some h
    cases r2 with
    | stop v => have := cls_L2_stop c _ _ v e2; subst this; cases h
    | next u2 =>
      obtain ⟨r3, e3, h⟩ := bind_some h
      cases r3 with
      | stop v => have := cls_L3_stop c _ _ v e3; subst this; cases h
      | next u3 =>
        obtain ⟨_, _, h⟩ := bind_some h
        rcases ite_some h with ⟨_, h⟩ | ⟨_, h⟩
        · rcases ite_some h with ⟨h1, _⟩ | ⟨_, h⟩
          · have := of_decide_eq_true h1; omega
          · cases h
        · cases h
theorem right10_L {p : List GClass} (hp : p.length ≤ 9223372036854775806) : ∀ (n k : Nat) (x : Int) (c : Ctl Bool Int), ref10_Right_L1 p n x (k : Int) = some c → (c = .stop false) ∨ ((∃ y, c = .next y) ∧ ∀ j, k ≤ j → ∀ cl, p[j]? = some cl → ref10_class cl = some true)
  | 0, k, x, c, h => by simp [ref10_Right_L1] at h
  | n + 1, k, x, c, h => by
    rw [ref10_Right_L1] at h
    by_cases hlt : k < p.length
    · rw [if_pos (by simpa using hlt), idx_lt hlt, w64_succ hlt (by omega)] at h
      obtain ⟨b, hb, h⟩ := bind_some h
      rcases ite_some h with ⟨_, h⟩ | ⟨hbf, h⟩
      · cases h; exact .inl rfl
      · subst hbf
        rcases ite_some hb with ⟨_, hb⟩ | ⟨_, hb⟩
        · cases hb
        · rw [obs] at hb
          obtain ⟨d, hd, hb⟩ := bind_some hb
          have hdt : d = true := by cases d; cases hb; rfl
          subst hdt
          rw [obs] at h
          obtain ⟨m, _, h⟩ := bind_some h
          rcases right10_L hp n (k + 1) _ c h with h1 | ⟨h1, h2⟩
          · exact .inl h1
          · refine .inr ⟨h1, fun j hj cl hcl => ?_⟩
            rcases Nat.eq_or_lt_of_le hj with e | e
            · subst e
              rw [List.getElem?_eq_getElem hlt] at hcl
              cases hcl; exact hd
            · exact h2 j e cl hcl
    · rw [if_neg (by simpa using hlt)] at h
      cases h
      refine .inr ⟨⟨_, rfl⟩, fun j hj cl hcl => ?_⟩
      have := (List.getElem?_eq_some_iff.1 hcl).1
      omega
theorem check_right {p : List GClass} {f : GFault} (h : ref13_Check p = some f) (h0 : f.fErr = 0) : ref10_Right p = some true := by
  unfold ref13_Check at h
  obtain ⟨b, hb, h⟩ := bind_some h
  rcases ite_some h with ⟨_, h⟩ | ⟨hbt, _⟩
  · obtain ⟨g, hg, h⟩ := bind_some h
    cases h
    unfold ref13_fault at hg
    cases hg
    cases h0
  · cases b with
    | true => exact hb
    | false => cases hbt
theorem right_params {p : List GClass} (hp : p.length ≤ 9223372036854775806) (h : ref10_Right p = some true) : ∀ c ∈ p, c.fParams.length ≤ 3 := by
  intro c hc
  unfold ref10_Right at h
  obtain ⟨r, hr, h⟩ := bind_some h
  obtain ⟨j, hj, rfl⟩ := List.getElem_of_mem hc
  rcases right10_L hp _ 0 _ r hr with rfl | ⟨_, h2⟩
  · cases h
  · exact cls_params (h2 j (by omega) _ (List.getElem?_eq_getElem hj))

/-! ### Names that are not twice: what the document's check says of the fields. -/
theorem twice_L2 {l : List (List UInt8)} {i : Nat} (hl : l.length ≤ 1000000) (hi : i < l.length) : ∀ (n k : Nat) (c : Ctl Int Unit), ref13_Twice_L2 l (i : Int) n (k : Int) = some c → k ≤ i → (c = .stop (i : Int)) ∨ (c = .next () ∧ ∀ j, k ≤ j → j < i → l[j]? ≠ l[i]?)
  | 0, k, c, h, _ => by cases h
  | n + 1, k, c, h, hk => by
    rw [ref13_Twice_L2] at h
    by_cases hlt : k < i
    · rw [if_pos (by simpa using hlt), idx_lt (show k < l.length by omega), idx_lt hi, obs, obs] at h
      by_cases he : l[k] = l[i]
      · rw [if_pos (by simpa using he)] at h; cases h; exact .inl rfl
      · rw [if_neg (by simpa using he), w64_succ hlt (by omega)] at h
        rcases twice_L2 hl hi n (k + 1) c h (by omega) with h1 | ⟨h1, h2⟩
        · exact .inl h1
        · refine .inr ⟨h1, fun j hj hji => ?_⟩
          by_cases e : j = k
          · subst e
            rw [List.getElem?_eq_getElem (by omega), List.getElem?_eq_getElem hi]
            exact fun e => he (Option.some.inj e)
          · exact h2 j (by omega) hji
    · rw [if_neg (by simpa using hlt)] at h; cases h
      exact .inr ⟨rfl, fun j hj hji => by omega⟩
theorem twice_L1 {l : List (List UInt8)} (hl : l.length ≤ 1000000) : ∀ (n k : Nat) (c : Ctl Int Unit), ref13_Twice_L1 l n (k : Int) = some c → (∃ i : Nat, c = .stop (i : Int)) ∨ (c = .next () ∧ ∀ i j, k ≤ i → i < l.length → j < i → l[j]? ≠ l[i]?)
  | 0, k, c, h => by cases h
  | n + 1, k, c, h => by
    rw [ref13_Twice_L1] at h
    by_cases hlt : k < l.length
    · rw [if_pos (by simpa using hlt)] at h
      obtain ⟨d, hd, h⟩ := bind_some h
      rcases twice_L2 hl hlt _ 0 d hd (by omega) with rfl | ⟨rfl, h2⟩
      · cases h; exact .inl ⟨k, rfl⟩
      · rw [show Ctl.elim (Ctl.next () : Ctl Int Unit) (fun v => some (Ctl.stop v)) (fun _ => ref13_Twice_L1 l n (w_i64 ((k : Int) + 1))) = ref13_Twice_L1 l n (w_i64 ((k : Int) + 1)) from rfl, w64_succ hlt (by omega)] at h
        rcases twice_L1 hl n (k + 1) c h with h1 | ⟨h1, h3⟩
        · exact .inl h1
        · refine .inr ⟨h1, fun i j hi hil hji => ?_⟩
          by_cases e : i = k
          · subst e; exact h2 j (by omega) hji
          · exact h3 i j (by omega) hil hji
    · rw [if_neg (by simpa using hlt)] at h; cases h
      exact .inr ⟨rfl, fun i j hi hil _ => by omega⟩
theorem twice_nodup {l : List (List UInt8)} (hl : l.length ≤ 1000000) {k : Int} (h : ref13_Twice l = some k) (hk : k < 0) : l.Nodup := by
  unfold ref13_Twice at h
  obtain ⟨c, hc, h⟩ := bind_some h
  rcases twice_L1 hl _ 0 c hc with ⟨i, rfl⟩ | ⟨rfl, h2⟩
  · cases h; omega
  · unfold List.Nodup
    rw [List.pairwise_iff_getElem]
    intro i j hi hj hij
    have := h2 j i (by omega) hj hij
    rw [List.getElem?_eq_getElem hi, List.getElem?_eq_getElem hj] at this
    exact fun e => this (by rw [e])
theorem names_L {l : List GVar} (hl : l.length ≤ 1000000) : ∀ (n k : Nat) (acc : List (List UInt8)), n + k = l.length + 1 → k ≤ l.length → acc.length = k → ref13_names_L1 l n acc (k : Int) = some (acc ++ (l.drop k).map GVar.fName)
  | 0, k, acc, h, hk, _ => by omega
  | n + 1, k, acc, h, hk, ha => by
    rw [ref13_names_L1]
    by_cases hlt : k < l.length
    · rw [if_pos (by simpa using hlt), idx_lt hlt, obs, room_ok (by simp; omega), obs, w64_succ hlt (by omega), names_L hl n (k + 1) _ (by omega) (by omega) (by simp [ha]), List.drop_eq_getElem_cons hlt]
      simp only [List.map_cons, List.append_assoc, List.cons_append, List.nil_append]
    · rw [if_neg (by simpa using hlt), List.drop_eq_nil_of_le (by omega)]; simp
theorem names_eq {l : List GVar} (hl : l.length ≤ 1000000) : ref13_names l = some (l.map GVar.fName) := by
  unfold ref13_names
  rw [fuel_len, show (0 : Int) = ((0 : Nat) : Int) from rfl, names_L hl _ 0 [] (by omega) (by omega) rfl, obs]; simp
theorem class_fields {p : List GClass} {i : Nat} {c : GClass} (hc : p[i]? = some c) (hl : c.fFields.length ≤ 1000000) {f : GFault} (h : ref13_class p (i : Int) = some f) (h0 : f.fErr = 0) : (c.fFields.map GVar.fName).Nodup := by
  unfold ref13_class at h
  rw [idx_nat, hc, obs] at h
  obtain ⟨b1, _, h⟩ := bind_some h
  rcases ite_some h with ⟨_, h⟩ | ⟨_, h⟩
  · unfold ref13_fault at h; cases h; cases h0
  obtain ⟨b2, _, h⟩ := bind_some h
  rcases ite_some h with ⟨_, h⟩ | ⟨_, h⟩
  · unfold ref13_fault at h; cases h; cases h0
  obtain ⟨b3, _, h⟩ := bind_some h
  rcases ite_some h with ⟨_, h⟩ | ⟨_, h⟩
  · unfold ref13_fault at h; cases h; cases h0
  obtain ⟨g, _, h⟩ := bind_some h
  rcases ite_some h with ⟨hg, h⟩ | ⟨_, h⟩
  · cases h; simp [h0] at hg
  rw [names_eq hl, obs] at h
  obtain ⟨k, hk, h⟩ := bind_some h
  rcases ite_some h with ⟨_, h⟩ | ⟨hk0, _⟩
  · obtain ⟨v, _, h⟩ := bind_some h
    unfold ref13_fault at h; cases h; cases h0
  · exact twice_nodup (by simpa using hl) hk (by simpa using hk0)
theorem check13_L {p : List GClass} (hp : p.length ≤ 1000000) : ∀ (n k : Nat) (c : Ctl GFault Unit), ref13_Check_L1 p n (k : Int) = some c → (∃ f, c = .stop f ∧ f.fErr ≠ 0) ∨ (∀ i, k ≤ i → i < p.length → ∃ f, ref13_class p (i : Int) = some f ∧ f.fErr = 0)
  | 0, k, c, h => by cases h
  | n + 1, k, c, h => by
    rw [ref13_Check_L1] at h
    by_cases hlt : k < p.length
    · rw [if_pos (by simpa using hlt)] at h
      obtain ⟨f, hf, h⟩ := bind_some h
      rcases ite_some h with ⟨h1, h⟩ | ⟨h1, h⟩
      · cases h; exact .inl ⟨f, rfl, by simpa using h1⟩
      · rw [w64_succ hlt (by omega)] at h
        rcases check13_L hp n (k + 1) c h with h2 | h2
        · exact .inl h2
        · refine .inr fun i hi hil => ?_
          by_cases e : i = k
          · subst e; exact ⟨f, hf, by simpa using h1⟩
          · exact h2 i (by omega) hil
    · exact .inr fun i hi hil => by omega
theorem check13_fields {p : List GClass} (hp : p.length ≤ 1000000) (hF : ∀ c ∈ p, c.fFields.length ≤ 1000000) {f : GFault} (h : ref13_Check p = some f) (h0 : f.fErr = 0) : ∀ c ∈ p, (c.fFields.map GVar.fName).Nodup := by
  intro c hc
  obtain ⟨i, hi, e⟩ := List.getElem_of_mem hc
  unfold ref13_Check at h
  obtain ⟨b, _, h⟩ := bind_some h
  rcases ite_some h with ⟨_, h⟩ | ⟨_, h⟩
  · unfold ref13_fault at h; cases h; cases h0
  obtain ⟨d, hd, h⟩ := bind_some h
  rcases check13_L hp _ 0 d hd with ⟨g, rfl, hg⟩ | h2
  · cases h; exact absurd h0 hg
  · obtain ⟨g, hg, hg0⟩ := h2 i (by omega) hi
    exact class_fields (by rw [List.getElem?_eq_getElem hi, e]) (hF c hc) hg hg0

/-! ### The whole way up, where nothing is above itself. -/
theorem upN_add {p : List GClass} {n : Nat} {name : List UInt8} (h : (upN p n name).length < n) : ∀ d, upN p (n + d) name = upN p n name
  | 0 => rfl
  | d + 1 => by
    have ih := upN_add h d
    rw [show n + (d + 1) = n + d + 1 from rfl, upN_more (n + d) name (by rw [ih]; omega), ih]
theorem upN_tail {p : List GClass} {n : Nat} {name : List UInt8} {i : Nat} (hf : fi p name = some i) : upN p (n + 1) name = if (sup p i == []) = true then [i] else i :: upN p n (sup p i) := by simp only [upN, hf]
theorem upN_nodup {p : List GClass} : ∀ (n : Nat) (name : List UInt8), (upN p n name).length < n → (upN p n name).Nodup
  | 0, name, h => by simp at h
  | n + 1, name, h => by
    cases hf : fi p name with
    | none => simp only [upN, hf]; exact List.nodup_nil
    | some i =>
      have ht := upN_tail (n := n) hf
      rw [ht] at h ⊢
      by_cases hs : (sup p i == []) = true
      · rw [if_pos hs]; simp
      · rw [if_neg hs] at h ht ⊢
        simp only [List.length_cons] at h
        have hl : (upN p n (sup p i)).length < n := by omega
        refine List.nodup_cons.2 ⟨fun hm => ?_, upN_nodup n _ hl⟩
        have hlt : (upN p n name).length ≤ (upN p n (sup p i)).length := by
          by_cases he : fi p (sup p i) = some i
          · rw [upN_fi (show fi p name = fi p (sup p i) by rw [hf, he])]; omega
          · have := upN_later n (sup p i) name i hl hm hf he; omega
        have := upN_more (p := p) n name (by omega)
        rw [ht] at this
        have := congrArg List.length this
        simp only [List.length_cons] at this
        omega
theorem chN_up {p : List GClass} : ∀ (n : Nat) (out : List Nat) (name : List UInt8), (upN p n name).length < n → (out ++ upN p n name).Nodup → chN p n out name = out ++ upN p n name
  | 0, out, name, h, _ => by simp at h
  | n + 1, out, name, h, hn => by
    cases hf : fi p name with
    | none => simp only [chN, upN, hf]; simp
    | some i =>
      have ht := upN_tail (n := n) hf
      rw [ht] at h hn ⊢
      by_cases hs : (sup p i == []) = true
      · rw [if_pos hs] at hn ⊢
        have hi : i ∉ out := fun hm => by
          rw [List.nodup_append] at hn; exact hn.2.2 i hm i (by simp) rfl
        simp only [chN, hf]
        rw [if_neg hi, if_pos hs]
      · rw [if_neg hs] at h hn ⊢
        simp only [List.length_cons] at h
        have hi : i ∉ out := fun hm => by
          rw [List.nodup_append] at hn; exact hn.2.2 i hm i (by simp) rfl
        simp only [chN, hf]
        rw [if_neg hi, if_neg hs, chN_up n _ _ (by omega) (by simpa using hn)]
        simp
theorem ch_up {p : List GClass} {name : List UInt8} (h : (upN p (p.length + 1) name).length < p.length + 1) : ch p name = upN p (p.length + 1) name := by
  unfold ch
  rw [chN_up _ [] name h (by simpa using upN_nodup _ _ h)]; rfl

theorem slotsAt_mem {p : List GClass} {j : Nat} {s : GSlot_field} (h : s ∈ slotsAt p j) : hasF p s.fVar.fName j = true := by
  unfold slotsAt at h
  unfold hasF
  cases hc : p[j]? with
  | none => rw [hc] at h; cases h
  | some c =>
    rw [hc] at h
    simp only [slotsOf, List.mem_map] at h
    obtain ⟨v, hv, rfl⟩ := h
    exact List.any_eq_true.2 ⟨v, hv, by simp⟩
theorem allS_mem {p : List GClass} : ∀ {l : List Nat} {s : GSlot_field}, s ∈ allS p l → ∃ j ∈ l, s ∈ slotsAt p j
  | [], s, h => by simp [allS] at h
  | k :: l, s, h => by
    rw [allS_cons] at h
    rcases List.mem_append.1 h with h | h
    · obtain ⟨j, hj, hs⟩ := allS_mem h; exact ⟨j, by simp [hj], hs⟩
    · exact ⟨k, by simp, h⟩
theorem allS_app {p : List GClass} : ∀ (l m : List Nat), allS p (l ++ m) = allS p m ++ allS p l
  | [], m => by simp [allS]
  | k :: l, m => by rw [List.cons_append, allS_cons, allS_cons, allS_app l m, List.append_assoc]
theorem othF_none {p : List GClass} (h : chkF p = none) {i : Nat} {c : GClass} (hc : p[i]? = some c) {v : GVar} (hv : v ∈ c.fFields) {j : Nat} (hj : j ∈ ch p c.fName) (hji : j ≠ i) : hasF p v.fName j = false := by
  have hi : i < p.length := (List.getElem?_eq_some_iff.1 hc).1
  have h1 := frst_none _ _ h i (by omega) (by omega)
  unfold gcl at h1
  rw [hc] at h1
  obtain ⟨k, hk, e⟩ := List.getElem_of_mem hv
  have h2 := frst_none _ _ h1 k (by omega) (by omega)
  unfold gck at h2
  rw [List.getElem?_eq_getElem hk, e] at h2
  have h3 : othF p i c.fName v.fName = false := by
    cases ho : othF p i c.fName v.fName with
    | false => rfl
    | true => simp only [ho, if_true] at h2; cases h2
  unfold othF at h3
  rw [List.any_eq_false] at h3
  have := h3 j hj
  simpa [hji] using this
/-- The names of the fields of a class, and of those above, are unlike. -/
theorem names_nd {p : List GClass} (h13 : ∀ c ∈ p, (c.fFields.map GVar.fName).Nodup) (hF : chkF p = none) : ∀ (n : Nat) (name : List UInt8), n ≤ p.length + 1 → (upN p n name).length < n → ((allS p (upN p n name)).map fun s => s.fVar.fName).Nodup
  | 0, name, _, h => by simp at h
  | n + 1, name, hn, h => by
    cases hf : fi p name with
    | none => simp only [upN, hf]; simp [allS]
    | some i =>
      obtain ⟨c, hc, hcn⟩ := fi_spec hf
      have ht := upN_tail (n := n) hf
      have hnd := upN_nodup _ _ h
      have hown : ((slotsAt p i).map fun s => s.fVar.fName).Nodup := by
        have := h13 c (List.mem_of_getElem? hc)
        unfold slotsAt
        rw [hc]
        simp only [slotsOf, List.map_map]
        exact this
      have hsub : ∀ j ∈ upN p (n + 1) name, j ∈ ch p c.fName := by
        intro j hj
        rw [hcn]
        refine mem_up.1 ?_
        obtain ⟨d, hd⟩ : ∃ d, p.length + 1 = n + 1 + d := ⟨p.length + 1 - (n + 1), by omega⟩
        rw [hd, upN_add h d]; exact hj
      by_cases hs : (sup p i == []) = true
      · rw [ht, if_pos hs]
        rw [allS_cons]; simpa [allS] using hown
      · rw [ht, if_neg hs] at h hnd
        rw [ht, if_neg hs] at hsub
        rw [ht, if_neg hs, allS_cons, List.map_append]
        simp only [List.length_cons] at h
        refine List.nodup_append.2 ⟨names_nd h13 hF n (sup p i) (by omega) (by omega), hown, fun a ha b hb e => ?_⟩
        subst e
        obtain ⟨s, hs1, hs2⟩ := List.mem_map.1 ha
        obtain ⟨j, hj, hs3⟩ := allS_mem hs1
        obtain ⟨s', hs4, hs5⟩ := List.mem_map.1 hb
        have hji : j ≠ i := fun e => (List.nodup_cons.1 hnd).1 (e ▸ hj)
        have h1 := slotsAt_mem hs3
        unfold slotsAt at hs4
        rw [hc] at hs4
        simp only [slotsOf, List.mem_map] at hs4
        obtain ⟨v, hv, rfl⟩ := hs4
        have h2 := othF_none hF hc hv (hsub j (by simp [hj])) hji
        rw [show s.fVar.fName = v.fName by rw [hs2]; exact hs5.symm] at h1
        rw [h1] at h2; cases h2
theorem fplace_at {l : List GSlot_field} (hn : (l.map fun s => s.fVar.fName).Nodup) {k : Nat} (hk : k < l.length) : fposn l l[k].fVar.fName = (k : Int) := by
  unfold fposn
  cases h : fplace l l[k].fVar.fName with
  | none =>
    have := frst_none _ _ h k (by omega) (by omega)
    simp [gnm, List.getElem?_eq_getElem hk] at this
  | some i =>
    obtain ⟨j, rfl, hj, e, _⟩ := fplace_some h
    have hp := List.pairwise_iff_getElem.1 hn
    rcases Nat.lt_trichotomy j k with h1 | h1 | h1
    · exact absurd (by rw [List.getElem_map, List.getElem_map]; exact e) (hp j k (by simpa using hj) (by simpa using hk) h1)
    · rw [h1]
    · exact absurd (by rw [List.getElem_map, List.getElem_map]; exact e.symm) (hp k j (by simpa using hk) (by simpa using hj) h1)
theorem slot_refl (s : GSlot_field) : bGSlot_field s s = true := by unfold bGSlot_field; simp
theorem keeps_L1 {l m : List GSlot_field} (hl : l.length ≤ 1000000) (hm : ∃ r, l = m ++ r) : ∀ (n k : Nat), n + k = m.length + 1 → k ≤ m.length → law16_FieldKeeps_L1 l m n (k : Int) = some (.next ())
  | 0, k, h, hk => by omega
  | n + 1, k, h, hk => by
    obtain ⟨r, hr⟩ := hm
    have hlm : m.length ≤ l.length := by rw [hr]; simp
    rw [law16_FieldKeeps_L1]
    by_cases hlt : k < m.length
    · have e : l[k]'(by omega) = m[k] := by simp only [hr]; rw [List.getElem_append_left hlt]
      rw [if_pos (by simpa using hlt), idx_lt (show k < l.length by omega), idx_lt hlt, obs, obs, e, slot_refl, if_neg (by simp), w64_succ hlt (by omega)]
      exact keeps_L1 hl ⟨r, hr⟩ n (k + 1) (by omega) (by omega)
    · rw [if_neg (by simpa using hlt)]
theorem keeps_L2 {p : List GClass} {a : List UInt8} {l : List GSlot_field} (hl : l.length ≤ 1000000) (hn : (l.map fun s => s.fVar.fName).Nodup) (hf : ∀ nm, field_Find p a nm = some (fposn l nm)) : ∀ (n k : Nat), n + k = l.length + 1 → k ≤ l.length → law16_FieldKeeps_L2 p a l n (k : Int) = some (.next ())
  | 0, k, h, hk => by omega
  | n + 1, k, h, hk => by
    rw [law16_FieldKeeps_L2]
    by_cases hlt : k < l.length
    · rw [if_pos (by simpa using hlt), idx_lt hlt, obs, hf, obs, fplace_at hn hlt, if_neg (by simp), w64_succ hlt (by omega)]
      exact keeps_L2 hl hn hf n (k + 1) (by omega) (by omega)
    · rw [if_neg (by simpa using hlt)]
theorem law16_FieldKeeps_true {a0 : List GClass} {a1 a2 : List UInt8} (h0 : listok (fun y => goodGClass y) a0) (_h1 : strok a1) (_h2 : strok a2) (hu : lsum uGClass a0 + 1 + (List.length a1 + 1 + (List.length a2 + 1 + (0))) ≤ 1048576) : law16_FieldKeeps a0 a1 a2 = some true := by
  have haw : law16_awake = some true := by decide +kernel
  have hl := len_lsum u1_C a0
  obtain ⟨b, hb, hg⟩ := great_eq (p := a0) (by omega)
  obtain ⟨f, hf⟩ := tot_Check13 (p := a0) (by omega)
  unfold law16_FieldKeeps
  rw [hb, obs]
  cases b with
  | true => rw [if_pos rfl, obs, if_pos rfl, haw, obs]
  | false =>
    obtain ⟨hp, hF⟩ := hg rfl
    have hc : ∀ c ∈ a0, ∀ v ∈ c.fFields, v.fName.length ≤ maxLen := fun c hm v hv => ((h0.2 c hm).2.2.2.2.1.2 v hv).1
    rw [if_neg (by simp), hf, obs]
    by_cases e0 : f.fErr = 0
    case neg => rw [if_pos (by simpa using e0), obs, if_pos rfl, haw, obs]
    rw [if_neg (by simpa using e0), ref_Check_eq (by omega), obs]
    by_cases e1 : (chk a0).fErr = 0
    case neg => rw [if_pos (by simpa using e1), obs, if_pos rfl, haw, obs]
    rw [if_neg (by simpa using e1), field_Check_eq (by omega) hc (by omega) hF, obs]
    cases hF0 : chkF a0 with
    | some g =>
      have : g.fErr = 7 := by
        obtain ⟨i, _, _, h1, _⟩ := frst_some _ _ hF0
        unfold gcl at h1
        split at h1
        · obtain ⟨k, _, _, h2, _⟩ := frst_some _ _ h1
          unfold gck at h2
          split at h2
          · split at h2
            · cases h2; rfl
            · cases h2
          · cases h2
        · cases h1
      rw [if_pos (by simp [this]), obs, if_pos rfl, haw, obs]
    | none =>
      rw [if_neg (by simp), ref_Below_eq (by omega), obs, obs]
      by_cases hB : bel a0 a1 a2 = true
      case neg => rw [if_pos (by simpa using hB), haw, obs]
      rw [if_neg (by simp [hB]), field_All_eq (by omega) (by omega) hF, field_All_eq (by omega) (by omega) hF, obs, obs]
      have h13 := check13_fields (p := a0) (by omega) (fun c hc => by have := hF c hc; omega) hf e0
      -- the chains
      unfold bel at hB
      cases hj : fi a0 a2 with
      | none => rw [hj] at hB; cases hB
      | some j =>
        rw [hj] at hB
        have hm : j ∈ ch a0 a1 := of_decide_eq_true hB
        obtain ⟨i, hi⟩ : ∃ i, fi a0 a1 = some i := by
          cases h : fi a0 a1 with
          | some i => exact ⟨i, rfl⟩
          | none =>
            have : ch a0 a1 = [] := by unfold ch chN; rw [h]
            rw [this] at hm; simp at hm
        have ha1 := acyclic e1 hi
        have ha2 := acyclic e1 hj
        have hpre : ∃ r, flds a0 a1 = flds a0 a2 ++ r := by
          obtain ⟨pre, hpre, _⟩ := upN_suf _ a1 a2 j ha1 (mem_up.2 hm) hj
          refine ⟨allS a0 pre, ?_⟩
          unfold flds
          rw [ch_up ha1, ch_up ha2, hpre, allS_app]
        have hnd : ((flds a0 a1).map fun s => s.fVar.fName).Nodup := by
          unfold flds
          rw [ch_up ha1]
          exact names_nd h13 hF0 _ a1 (by omega) ha1
        have hlen := flds_len (p := a0) (by omega) (show 40 ≤ 1000 by omega) hF a1
        have hle : (flds a0 a2).length ≤ (flds a0 a1).length := by obtain ⟨r, hr⟩ := hpre; rw [hr]; simp
        rw [if_neg (by simp; omega), fuel_len, fuel_len, show (0 : Int) = ((0 : Nat) : Int) from rfl, keeps_L1 hlen hpre _ 0 (by omega) (by omega), obs]
        show Option.bind (law16_FieldKeeps_L2 a0 a1 (flds a0 a1) _ _) _ = _
        rw [keeps_L2 hlen hnd (fun nm => field_Find_eq (by omega) (by omega) hF a1 nm) _ 0 (by omega) (by omega), obs]
        show Option.bind law16_awake _ = _
        rw [haw, obs]

end Go.Proofs.Ytdffghiejjaomaa
