/- The abstract layer that the proof stands on: no condition. -/
import Derived.Test.YtkfgkkbfipgklaaAbsS
/- Plain loops over lists. -/
namespace Go.Abs
variable {α β S R T : Type}
def foldO (f : S → α → Option S) : S → List α → Option S
  | s, [] => some s
  | s, y :: l => Option.bind (f s y) fun s' => foldO f s' l
def foldC (f : S → α → Option (Ctl R S)) : S → List α → Option (Ctl R S)
  | s, [] => some (.next s)
  | s, y :: l => Option.bind (f s y) fun c => match c with
    | .stop r => some (.stop r)
    | .next s' => foldC f s' l
/-- A loop that gathers. -/
theorem foldL_at {l : List α} (hp : l.length ≤ 9223372036854775807) {L : Nat → S → Int → Option T} {f : S → α → Option S} {fin : S → Option T}
    (hL : ∀ (n : Nat) (s : S) (x : Int), L (n + 1) s x = if decide (x < (l.length : Int)) = true then Option.bind (idx l x) fun y => Option.bind (f s y) fun s' => L n s' (w_i64 (x + 1)) else fin s) :
    ∀ (n k : Nat) (s : S), n + k = l.length + 1 → k ≤ l.length → L n s (k : Int) = Option.bind (foldO f s (l.drop k)) fin
  | 0, k, s, h, hk => by omega
  | n + 1, k, s, h, hk => by
    rw [hL]
    by_cases hlt : k < l.length
    · rw [if_pos (by simpa using hlt), idx_lt hlt, List.drop_eq_getElem_cons hlt, obs]
      simp only [foldO]
      cases hf : f s l[k] with
      | none => rfl
      | some s' =>
        rw [obs, obs, w64_succ hlt (by omega)]
        exact foldL_at hp hL n (k + 1) s' (by omega) (by omega)
    · rw [if_neg (by simpa using hlt), List.drop_eq_nil_of_le (by omega)]
      rfl
theorem foldL (L : Nat → S → Int → Option T) {l : List α} (hp : l.length ≤ 9223372036854775807) {f : S → α → Option S} {fin : S → Option T}
    (hL : ∀ (n : Nat) (s : S) (x : Int), L (n + 1) s x = if decide (x < (l.length : Int)) = true then Option.bind (idx l x) fun y => Option.bind (f s y) fun s' => L n s' (w_i64 (x + 1)) else fin s) (s : S) :
    L ((((l.length : Int) : Int) - (0)).toNat + 1) s 0 = Option.bind (foldO f s l) fin := by
  rw [show (((l.length : Int) : Int) - (0)).toNat + 1 = l.length + 1 by omega]
  exact foldL_at hp hL (l.length + 1) 0 s (by omega) (by omega)
/-- A loop that may end early. -/
theorem foldCL_at {l : List α} (hp : l.length ≤ 9223372036854775807) {L : Nat → S → Int → Option T} {f : S → α → Option (Ctl R S)} {stp : R → Option T} {fin : S → Option T}
    (hL : ∀ (n : Nat) (s : S) (x : Int), L (n + 1) s x = if decide (x < (l.length : Int)) = true then Option.bind (idx l x) fun y => Option.bind (f s y) fun c => Ctl.elim c stp (fun s' => L n s' (w_i64 (x + 1))) else fin s) :
    ∀ (n k : Nat) (s : S), n + k = l.length + 1 → k ≤ l.length → L n s (k : Int) = Option.bind (foldC f s (l.drop k)) fun c => Ctl.elim c stp fin
  | 0, k, s, h, hk => by omega
  | n + 1, k, s, h, hk => by
    rw [hL]
    by_cases hlt : k < l.length
    · rw [if_pos (by simpa using hlt), idx_lt hlt, List.drop_eq_getElem_cons hlt, obs]
      simp only [foldC]
      cases hf : f s l[k] with
      | none => rfl
      | some c =>
        rw [obs, obs]
        cases c with
        | stop r => rfl
        | next s' =>
          simp only [Ctl.elim]
          rw [w64_succ hlt (by omega)]
          exact foldCL_at hp hL n (k + 1) s' (by omega) (by omega)
    · rw [if_neg (by simpa using hlt), List.drop_eq_nil_of_le (by omega)]
      rfl
theorem foldCL (L : Nat → S → Int → Option T) {l : List α} (hp : l.length ≤ 9223372036854775807) {f : S → α → Option (Ctl R S)} {stp : R → Option T} {fin : S → Option T}
    (hL : ∀ (n : Nat) (s : S) (x : Int), L (n + 1) s x = if decide (x < (l.length : Int)) = true then Option.bind (idx l x) fun y => Option.bind (f s y) fun c => Ctl.elim c stp (fun s' => L n s' (w_i64 (x + 1))) else fin s) (s : S) :
    L ((((l.length : Int) : Int) - (0)).toNat + 1) s 0 = Option.bind (foldC f s l) fun c => Ctl.elim c stp fin := by
  rw [show (((l.length : Int) : Int) - (0)).toNat + 1 = l.length + 1 by omega]
  exact foldCL_at hp hL (l.length + 1) 0 s (by omega) (by omega)
/-- A search for the first of a kind: its place. -/
theorem findL_at {l : List α} (hp : l.length ≤ 9223372036854775807) {L : Nat → Int → Option (Ctl Int Unit)} {b : α → Bool}
    (hL : ∀ (n : Nat) (x : Int), L (n + 1) x = if decide (x < (l.length : Int)) = true then Option.bind (idx l x) fun y => if b y = true then some (.stop x) else L n (w_i64 (x + 1)) else some (.next ())) :
    ∀ (n k : Nat), n + k = l.length + 1 → k ≤ l.length → L n (k : Int) = some (match (l.drop k).findIdx? b with | some i => .stop ((k + i : Nat) : Int) | none => .next ())
  | 0, k, h, hk => by omega
  | n + 1, k, h, hk => by
    rw [hL]
    by_cases hlt : k < l.length
    · rw [if_pos (by simpa using hlt), idx_lt hlt, List.drop_eq_getElem_cons hlt, obs, List.findIdx?_cons]
      cases hb : b l[k] with
      | true => simp
      | false =>
        rw [if_neg (by simp), w64_succ hlt (by omega), findL_at hp hL n (k + 1) (by omega) (by omega)]
        cases (l.drop (k + 1)).findIdx? b with
        | none => simp
        | some i => simp; omega
    · rw [if_neg (by simpa using hlt), List.drop_eq_nil_of_le (by omega)]
      rfl
theorem findL (L : Nat → Int → Option (Ctl Int Unit)) {l : List α} (hp : l.length ≤ 9223372036854775807) {b : α → Bool}
    (hL : ∀ (n : Nat) (x : Int), L (n + 1) x = if decide (x < (l.length : Int)) = true then Option.bind (idx l x) fun y => if b y = true then some (.stop x) else L n (w_i64 (x + 1)) else some (.next ())) :
    L ((((l.length : Int) : Int) - (0)).toNat + 1) 0 = some (match l.findIdx? b with | some i => .stop (i : Int) | none => .next ()) := by
  rw [show (((l.length : Int) : Int) - (0)).toNat + 1 = l.length + 1 by omega]
  have := findL_at hp hL (l.length + 1) 0 (by omega) (by omega)
  rw [show ((0 : Nat) : Int) = 0 from rfl] at this
  rw [this, List.drop_zero]
  cases l.findIdx? b with
  | none => rfl
  | some i => simp
/-- .. as an answer: is there one? -/
theorem find_any {l : List α} {b : α → Bool} : (Ctl.elim (match l.findIdx? b with | some i => Ctl.stop (i : Int) | none => .next ()) (fun v => some v) fun _ => some (-1 : Int)) = some (match l.findIdx? b with | some i => (i : Int) | none => -1) := by
  cases l.findIdx? b <;> rfl
theorem idx_any (l : List α) (b : α → Bool) : decide ((match l.findIdx? b with | some i => (i : Int) | none => -1) ≥ 0) = l.any b := by
  rw [← List.findIdx?_isSome]
  cases l.findIdx? b <;> simp
/-- A search that ends with the same answer each time. -/
theorem anyL_at {l : List α} (hp : l.length ≤ 9223372036854775807) {L : Nat → Int → Option (Ctl R Unit)} {b : α → Bool} {r : R}
    (hL : ∀ (n : Nat) (x : Int), L (n + 1) x = if decide (x < (l.length : Int)) = true then Option.bind (idx l x) fun y => if b y = true then some (.stop r) else L n (w_i64 (x + 1)) else some (.next ())) :
    ∀ (n k : Nat), n + k = l.length + 1 → k ≤ l.length → L n (k : Int) = some (if (l.drop k).any b = true then .stop r else .next ())
  | 0, k, h, hk => by omega
  | n + 1, k, h, hk => by
    rw [hL]
    by_cases hlt : k < l.length
    · rw [if_pos (by simpa using hlt), idx_lt hlt, List.drop_eq_getElem_cons hlt, obs, List.any_cons]
      cases hb : b l[k] with
      | true => simp
      | false =>
        rw [if_neg (by simp), w64_succ hlt (by omega), anyL_at hp hL n (k + 1) (by omega) (by omega)]
        simp
    · rw [if_neg (by simpa using hlt), List.drop_eq_nil_of_le (by omega)]
      rfl
theorem anyL (L : Nat → Int → Option (Ctl R Unit)) {l : List α} (hp : l.length ≤ 9223372036854775807) {b : α → Bool} {r : R}
    (hL : ∀ (n : Nat) (x : Int), L (n + 1) x = if decide (x < (l.length : Int)) = true then Option.bind (idx l x) fun y => if b y = true then some (.stop r) else L n (w_i64 (x + 1)) else some (.next ())) :
    L ((((l.length : Int) : Int) - (0)).toNat + 1) 0 = some (if l.any b = true then .stop r else .next ()) := by
  rw [show (((l.length : Int) : Int) - (0)).toNat + 1 = l.length + 1 by omega]
  exact anyL_at hp hL (l.length + 1) 0 (by omega) (by omega)
/-- A search over places (each may ask for what it likes). -/
theorem anyI_at {len : Nat} (hp : len ≤ 9223372036854775807) {L : Nat → Int → Option (Ctl R Unit)} {b : Nat → Bool} {r : R}
    (hL : ∀ (n k : Nat), k < len → L (n + 1) (k : Int) = if b k = true then some (.stop r) else L n ((k + 1 : Nat) : Int)) (hE : ∀ n, L (n + 1) (len : Int) = some (.next ())) :
    ∀ (n k : Nat), n + k = len + 1 → k ≤ len → L n (k : Int) = some (if (List.range' k (len - k)).any b = true then .stop r else .next ())
  | 0, k, h, hk => by omega
  | n + 1, k, h, hk => by
    by_cases hlt : k < len
    · rw [hL n k hlt, show len - k = (len - (k + 1)) + 1 by omega, List.range'_succ, List.any_cons]
      cases hb : b k with
      | true => simp
      | false => rw [if_neg (by simp), anyI_at hp hL hE n (k + 1) (by omega) (by omega)]; simp only [Bool.false_or]
    · have : k = len := by omega
      subst this
      rw [hE]; simp
theorem anyI (L : Nat → Int → Option (Ctl R Unit)) {len : Nat} (hp : len ≤ 9223372036854775807) {b : Nat → Bool} {r : R}
    (hL : ∀ (n k : Nat), k < len → L (n + 1) (k : Int) = if b k = true then some (.stop r) else L n ((k + 1 : Nat) : Int)) (hE : ∀ n, L (n + 1) (len : Int) = some (.next ())) :
    L ((((len : Int) : Int) - (0)).toNat + 1) 0 = some (if (List.range len).any b = true then .stop r else .next ()) := by
  rw [show (((len : Int) : Int) - (0)).toNat + 1 = len + 1 by omega, List.range_eq_range']
  exact anyI_at hp hL hE (len + 1) 0 (by omega) (by omega)
/-- A list that grows by what each element gives. -/
theorem foldO_app (f : List β → α → Option (List β)) (g : α → β) (h : ∀ (s : List β) (y : α), f s y = some (s ++ [g y])) : ∀ (l : List α) (s : List β), foldO f s l = some (s ++ l.map g)
  | [], s => by simp [foldO]
  | y :: l, s => by simp only [foldO, h, obs]; rw [foldO_app f g h l]; simp
/-- .. with room for it. -/
theorem foldO_room (f : List β → α → Option (List β)) (g : α → β) (m : Nat) (h : ∀ (s : List β) (y : α), s.length < m → f s y = some (s ++ [g y])) : ∀ (l : List α) (s : List β), s.length + l.length ≤ m → foldO f s l = some (s ++ l.map g)
  | [], s, _ => by simp [foldO]
  | y :: l, s, hl => by
    simp only [List.length_cons] at hl
    simp only [foldO, h s y (by omega), obs]
    rw [foldO_room f g m h l _ (by simp; omega)]; simp
theorem room1 {n : Nat} {m : Int} (h : (n : Int) < 1000000) (hm : m ≤ 100000) (h0 : 0 ≤ m) : room ((n : Int) + ((1 : Nat) : Int)) m = some () := by
  refine room_ok ?_
  have : ((n : Int) + ((1 : Nat) : Int)) * m ≤ 1000001 * 100000 := by
    refine Int.le_trans (Int.mul_le_mul_of_nonneg_right (show (n : Int) + ((1 : Nat) : Int) ≤ 1000001 by omega) h0) ?_
    exact Int.mul_le_mul_of_nonneg_left hm (by omega)
  omega
end Go.Abs
