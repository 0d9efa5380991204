/- A part of the proof that the law EventBack gives true for every input. -/
import Derived.Test.YtccladleehbmhaaDoorEventBackA2
import Derived.Test.YtccladleehbmhaaDoorEventBackA3
import Derived.Test.YtccladleehbmhaaDoorEventBackT
import Derived.Test.YtccladleehbmhaaDoorEventBackD
/- The plain law. -/
namespace Go.Proofs.YtccladleehbmhaaDoor
open Go.RowKit Go.Abs
def spl (c : UInt8) : List UInt8 → List (List UInt8)
  | [] => [[]]
  | b :: t => if b = c then [] :: spl c t else match spl c t with
    | [] => [[b]]
    | w :: ws => (b :: w) :: ws
def jn (c : UInt8) : List (List UInt8) → List UInt8
  | [] => []
  | [w] => w
  | w :: v :: ws => w ++ c :: jn c (v :: ws)
theorem spl_ne (c : UInt8) : ∀ s, spl c s ≠ []
  | [] => by simp [spl]
  | b :: t => by
    simp only [spl]
    split
    · simp
    · split <;> simp
theorem spl_cons_ne {c b : UInt8} {t : List UInt8} (h : b ≠ c) : ∃ w ws, spl c t = w :: ws ∧ spl c (b :: t) = (b :: w) :: ws := by
  cases e : spl c t with
  | nil => exact absurd e (spl_ne c t)
  | cons w ws => exact ⟨w, ws, rfl, by simp only [spl]; rw [if_neg h, e]⟩
theorem spl_cons_eq {c : UInt8} {t : List UInt8} : spl c (c :: t) = [] :: spl c t := by simp [spl]
theorem jn_cons (c : UInt8) (w : List UInt8) {l : List (List UInt8)} (h : l ≠ []) : jn c (w :: l) = w ++ c :: jn c l := by
  cases l with
  | nil => exact absurd rfl h
  | cons v ws => rfl
theorem jn_head (c b : UInt8) (w : List UInt8) (ws : List (List UInt8)) : jn c ((b :: w) :: ws) = b :: jn c (w :: ws) := by cases ws <;> rfl
theorem jn_spl (c : UInt8) : ∀ s, jn c (spl c s) = s
  | [] => rfl
  | b :: t => by
    by_cases h : b = c
    · subst h
      rw [spl_cons_eq, jn_cons _ _ (spl_ne _ _), jn_spl b t]; rfl
    · obtain ⟨w, ws, e1, e2⟩ := spl_cons_ne (t := t) h
      rw [e2, jn_head, ← e1, jn_spl c t]
theorem spl_app {c : UInt8} {w : List UInt8} (h : c ∉ w) (t : List UInt8) : spl c (w ++ c :: t) = w :: spl c t := by
  induction w with
  | nil => exact spl_cons_eq
  | cons b w ih =>
    simp only [List.mem_cons, not_or] at h
    obtain ⟨v, ws, e1, e2⟩ := spl_cons_ne (c := c) (t := w ++ c :: t) (b := b) (fun e => h.1 e.symm)
    rw [List.cons_append, e2]
    rw [ih h.2] at e1
    cases e1; rfl
theorem spl_none {c : UInt8} {w : List UInt8} (h : c ∉ w) : spl c w = [w] := by
  induction w with
  | nil => rfl
  | cons b w ih =>
    simp only [List.mem_cons, not_or] at h
    obtain ⟨v, ws, e1, e2⟩ := spl_cons_ne (c := c) (t := w) (b := b) (fun e => h.1 e.symm)
    rw [e2]
    rw [ih h.2] at e1
    cases e1; rfl
theorem spl_jn (c : UInt8) : ∀ {ws : List (List UInt8)}, ws ≠ [] → (∀ w ∈ ws, c ∉ w) → spl c (jn c ws) = ws
  | [], h, _ => absurd rfl h
  | [w], _, hw => by simp only [jn]; exact spl_none (hw w (by simp))
  | w :: v :: ws, _, hw => by
    rw [jn_cons _ _ (by simp), spl_app (hw w (by simp)), spl_jn c (by simp) (fun x hx => hw x (by simp [hx]))]
/-! ### strings.Split, strings.Cut, strings.CutPrefix at one byte. -/
theorem toU8 (c : UInt8) : ((c.toNat : Int).toNat).toUInt8 = c := by simp
theorem idxB_eq (x : List UInt8) (c : UInt8) : idxB x (c.toNat : Int) = Lib.indexByte x c := by
  unfold idxB
  rw [toU8]
theorem cntB_eq (x : List UInt8) (c : UInt8) : cntB x (c.toNat : Int) = ((x.count c : Nat) : Int) := by
  unfold cntB Lib.countByte
  rw [toU8]
theorem ib_none {c : UInt8} : ∀ {x : List UInt8}, c ∉ x → Lib.indexByte x c = -1
  | [], _ => rfl
  | b :: l, h => by
    simp only [List.mem_cons, not_or] at h
    unfold Lib.indexByte
    rw [if_neg (by simp; exact fun e => h.1 e.symm), ib_none h.2]; rfl
theorem ib_app {c : UInt8} (t : List UInt8) : ∀ {w : List UInt8}, c ∉ w → Lib.indexByte (w ++ c :: t) c = (w.length : Int)
  | [], _ => by
    show Lib.indexByte (c :: t) c = 0
    unfold Lib.indexByte
    rw [if_pos (by simp)]
  | b :: l, h => by
    simp only [List.mem_cons, not_or] at h
    show Lib.indexByte (b :: (l ++ c :: t)) c = _
    unfold Lib.indexByte
    rw [if_neg (by simp; exact fun e => h.1 e.symm), ib_app t h.2, if_neg (by simp)]
    simp
theorem first_occ {c : UInt8} : ∀ {x : List UInt8}, c ∈ x → ∃ w t, x = w ++ c :: t ∧ c ∉ w
  | [], h => by cases h
  | b :: l, h => by
    by_cases e : b = c
    · exact ⟨[], l, by rw [e]; rfl, by simp⟩
    · obtain ⟨w, t, h1, h2⟩ := first_occ (x := l) (by rcases List.mem_cons.1 h with h | h; exact absurd h.symm e; exact h)
      exact ⟨b :: w, t, by rw [h1]; rfl, by simp only [List.mem_cons, not_or]; exact ⟨fun q => e q.symm, h2⟩⟩
theorem index_one (c : UInt8) (x : List UInt8) : strings_Index x [c] = some (Lib.indexByte x c) := by
  unfold strings_Index internal_stringslite_Index
  rw [if_neg (show ¬ (([c].length : Int) == 0) = true by simp), obs]
  by_cases h : ([c] == x) = true
  · rw [if_pos h, obs]
    have : x = [c] := (beq_iff_eq.1 h).symm
    subst this
    congr 1
    unfold Lib.indexByte
    rw [if_pos (by simp)]
  · rw [if_neg h, if_pos (show (([c].length : Int) == 1) = true by simp)]
    show Option.bind (Option.bind (some c) _) _ = _
    rw [obs]
    unfold internal_stringslite_IndexByte
    rw [obs, obs, idxB_eq]
theorem cutL_to {α : Type} {l : List α} {k : Nat} (h : k ≤ l.length) : cutL l 0 (k : Int) = some (l.take k) := by
  unfold cutL
  rw [if_pos ⟨Int.le_refl _, by omega, by omega⟩, Int.toNat_natCast]; rfl
theorem cutL_from {α : Type} {l : List α} {k : Nat} (h : k ≤ l.length) : cutL l (k : Int) (l.length : Int) = some (l.drop k) := by
  unfold cutL
  rw [if_pos ⟨by omega, by omega, by omega⟩, Int.toNat_natCast, Int.toNat_natCast, List.take_length]
theorem genL {c : UInt8} {s : List UInt8} {N : Nat} {x6 : Int} (hs : s.length ≤ 10000000) (hc : w_i64 ((if (w_i64 ((s.length : Int) + 1)) < x6 then (w_i64 ((s.length : Int) + 1)) else x6) - 1) = ((N - 1 : Nat) : Int)) (hN : N ≤ 10000001) :
    ∀ (f : Nat) (x : List UInt8) (dn : List (List UInt8)), x.length ≤ 10000000 → dn.length + x.count c + 1 = N → x.count c + 1 ≤ f →
    ∃ last dn', c ∉ last ∧ dn' ++ [last] = dn ++ spl c x ∧ dn'.length + 1 = N ∧
      strings_genSplit_L1 s [c] 0 x6 f x (dn ++ List.replicate (x.count c + 1) []) (dn.length : Int) = some (last, dn' ++ [[]], (dn'.length : Int))
  | 0, x, dn, _, _, h => by omega
  | f + 1, x, dn, hx, hd, hf => by
    unfold strings_genSplit_L1
    rw [hc]
    by_cases hm : c ∈ x
    · obtain ⟨w, t, e, hw⟩ := first_occ hm
      have hcw : w.count c = 0 := List.count_eq_zero.2 hw
      have hcnt : x.count c = t.count c + 1 := by rw [e, List.count_append, hcw, List.count_cons_self]; omega
      rw [if_pos (by rw [decide_eq_true_eq]; omega), index_one, obs, e, ib_app t hw, if_neg (by simp)]
      have hxl : x.length = w.length + 1 + t.length := by rw [e]; simp; omega
      rw [show w_i64 ((w.length : Int) + 0) = (w.length : Int) by rw [w64 (by omega) (by omega)]; omega, cutL_to (by simp), obs]
      rw [← e, hcnt]
      rw [idx_lt (by simp), obs, show w_i64 ((w.length : Int) + ([c].length : Int)) = ((w.length + 1 : Nat) : Int) by simp; rw [w64 (by omega) (by omega)], cutL_from (by omega), obs]
      have e1 : x.take w.length = w := by rw [e]; simp
      have e2 : x.drop (w.length + 1) = t := by rw [e]; simp
      rw [e1, e2]
      have e3 : (dn ++ List.replicate (t.count c + 1 + 1) ([] : List UInt8)).set (dn.length : Int).toNat w = (dn ++ [w]) ++ List.replicate (t.count c + 1) [] := by
        rw [Int.toNat_natCast, List.replicate_succ, List.set_append_right _ _ (Nat.le_refl _)]
        simp
      rw [e3, w64 (by omega) (by omega), show ((dn.length : Int) + 1) = ((dn ++ [w]).length : Int) by simp]
      have hk : (dn ++ [w]).length + t.count c + 1 = N := by rw [List.length_append, List.length_singleton]; omega
      obtain ⟨last, dn', g1, g2, g3, g4⟩ := genL hs hc hN f t (dn ++ [w]) (by omega) hk (by omega)
      refine ⟨last, dn', g1, ?_, g3, g4⟩
      rw [g2, e, spl_app hw, List.append_assoc]; rfl
    · have hcnt : x.count c = 0 := List.count_eq_zero.2 hm
      rw [if_neg (by rw [decide_eq_true_eq]; omega), hcnt]
      exact ⟨x, dn, hm, by rw [spl_none hm], by omega, by simp⟩
theorem split_one (c : UInt8) {s : List UInt8} (hs : s.length ≤ 10000000) : strings_Split s [c] = some (spl c s) := by
  have hcl : s.count c ≤ s.length := List.count_le_length
  unfold strings_Split strings_genSplit
  rw [if_neg (by simp), if_neg (by simp), if_pos (by simp)]
  unfold strings_Count
  rw [if_neg (by simp), if_pos (by simp)]
  rw [show idx [c] 0 = some c from rfl, obs, obs, obs, cntB_eq, show w_i64 (((s.count c : Nat) : Int) + 1) = ((s.count c + 1 : Nat) : Int) by rw [w64 (by omega) (by omega)]; omega]
  have hN : (if (w_i64 ((s.length : Int) + 1)) < ((s.count c + 1 : Nat) : Int) then (w_i64 ((s.length : Int) + 1)) else ((s.count c + 1 : Nat) : Int)) = ((s.count c + 1 : Nat) : Int) := by
    rw [w64 (by omega) (by omega), if_neg (by omega)]
  rw [hN, show mkOk ((s.count c + 1 : Nat) : Int) ((s.count c + 1 : Nat) : Int) 16 = some () by unfold mkOk; rw [if_pos ⟨by omega, by omega, by omega⟩], obs, Int.toNat_natCast]
  obtain ⟨last, dn', g1, g2, g3, g4⟩ := genL (c := c) (s := s) (N := s.count c + 1) (x6 := ((s.count c + 1 : Nat) : Int)) hs (by rw [hN, w64 (by omega) (by omega)]; omega) (by omega) ((((w_i64 (((s.count c + 1 : Nat) : Int) - 1)) : Int) - (0)).toNat + 1) s [] hs (by simp) (by rw [w64 (by omega) (by omega)]; omega)
  simp only [List.nil_append, List.length_nil, Int.natCast_zero] at g4 g2
  rw [g4, obs]
  simp only
  have hset : (dn' ++ [([] : List UInt8)]).set (dn'.length : Int).toNat last = dn' ++ [last] := by
    rw [Int.toNat_natCast, List.set_append_right _ _ (Nat.le_refl _)]; simp
  rw [idx_lt (by simp), obs, hset, g2]
  have hl : (spl c s).length = dn'.length + 1 := by rw [← g2]; simp
  rw [show w_i64 ((dn'.length : Int) + 1) = ((spl c s).length : Int) by rw [w64 (by omega) (by omega), hl]; omega, cutL_to (Nat.le_refl _), obs, List.take_length, obs]
theorem cut_none {c : UInt8} {s : List UInt8} (h : c ∉ s) : strings_Cut s [c] = some (s, [], false) := by
  unfold strings_Cut internal_stringslite_Cut
  have hi : internal_stringslite_Index s [c] = some (-1) := by
    have := index_one c s
    unfold strings_Index at this
    rw [ib_none h] at this
    cases hx : internal_stringslite_Index s [c] with
    | none => rw [hx] at this; cases this
    | some y => rw [hx, obs] at this; exact this
  rw [hi, obs, if_neg (by simp), obs]
theorem cut_app {c : UInt8} {w t : List UInt8} (h : c ∉ w) (hl : (w ++ c :: t).length ≤ 10000000) : strings_Cut (w ++ c :: t) [c] = some (w, t, true) := by
  unfold strings_Cut internal_stringslite_Cut
  have hi : internal_stringslite_Index (w ++ c :: t) [c] = some (w.length : Int) := by
    have := index_one c (w ++ c :: t)
    unfold strings_Index at this
    rw [ib_app t h] at this
    cases hx : internal_stringslite_Index (w ++ c :: t) [c] with
    | none => rw [hx] at this; cases this
    | some y => rw [hx, obs] at this; exact this
  have hl' : w.length + 1 + t.length ≤ 10000000 := by simpa [Nat.add_assoc, Nat.add_comm 1] using hl
  rw [hi, obs, if_pos (by simp), cutL_to (by simp), obs, show w_i64 ((w.length : Int) + ([c].length : Int)) = ((w.length + 1 : Nat) : Int) by simp; rw [w64 (by omega) (by omega)], cutL_from (by simp), obs, obs]
  simp
theorem cutprefix_one (c : UInt8) (s : List UInt8) : strings_CutPrefix s [c] = some (match s with | [] => ([], false) | b :: t => if b = c then (t, true) else (b :: t, false)) := by
  unfold strings_CutPrefix internal_stringslite_CutPrefix internal_stringslite_HasPrefix
  cases s with
  | nil => rfl
  | cons b t =>
    rw [if_pos (by simp; omega)]
    rw [show ([c].length : Int) = ((1 : Nat) : Int) from rfl, cutL_to (by simp), obs, obs]
    by_cases h : b = c
    · subst h
      rw [if_neg (by simp), cutL_from (by simp), obs]
      simp
    · rw [if_pos (by simp [h])]
      simp [h]

/-! ### A row, turned round. -/
theorem set_mid {A B : List Int} {x v : Int} : (A ++ x :: B).set A.length v = A ++ v :: B := by
  rw [List.set_append_right _ _ (Nat.le_refl _)]; simp
theorem rev_L : ∀ (n : Nat) (M A B : List Int), M.length < 2 * n → (A ++ (M ++ B)).length ≤ 1000000 → slices_Reverse_byte_w_L1 n (A ++ (M ++ B)) (A.length : Int) ((A.length : Int) + (M.length : Int) - 1) = some (A ++ (M.reverse ++ B))
  | 0, M, A, B, h, _ => by omega
  | n + 1, M, A, B, h, hl => by
    rw [slices_Reverse_byte_w_L1]
    by_cases h2 : 2 ≤ M.length
    · obtain ⟨x, M', y, rfl⟩ : ∃ x M' y, M = x :: (M' ++ [y]) := by
        cases M with
        | nil => simp at h2
        | cons x T =>
          have hT : T ≠ [] := by intro e; subst e; simp at h2
          exact ⟨x, T.dropLast, T.getLast hT, by rw [List.dropLast_concat_getLast]⟩
      simp only [List.length_append, List.length_cons, List.length_nil] at h hl
      have e0 : A ++ (x :: (M' ++ [y]) ++ B) = A ++ x :: (M' ++ (y :: B)) := by simp
      have ej : ((A.length : Int) + ((x :: (M' ++ [y])).length : Int) - 1) = ((A ++ x :: M').length : Int) := by simp; omega
      have e1 : A ++ x :: (M' ++ (y :: B)) = (A ++ x :: M') ++ y :: B := by simp
      have ix : idx (A ++ x :: (M' ++ (y :: B))) (A.length : Int) = some x := by rw [idx_nat]; simp
      have iy : idx (A ++ x :: (M' ++ (y :: B))) ((A ++ x :: M').length : Int) = some y := by rw [e1, idx_nat, List.getElem?_append_right (Nat.le_refl _)]; simp
      have s1 : (A ++ x :: (M' ++ (y :: B))).set A.length y = A ++ y :: (M' ++ (y :: B)) := set_mid
      have i2 : idx (A ++ y :: (M' ++ (y :: B))) ((A ++ x :: M').length : Int) = some y := by
        rw [show A ++ y :: (M' ++ (y :: B)) = (A ++ y :: M') ++ y :: B by simp, show (A ++ x :: M').length = (A ++ y :: M').length by simp, idx_nat, List.getElem?_append_right (Nat.le_refl _)]; simp
      have s2 : (A ++ y :: (M' ++ (y :: B))).set (A ++ x :: M').length x = (A ++ [y]) ++ (M' ++ (x :: B)) := by
        rw [show A ++ y :: (M' ++ (y :: B)) = (A ++ y :: M') ++ y :: B by simp, show (A ++ x :: M').length = (A ++ y :: M').length by simp, set_mid]; simp
      rw [e0, ej, if_pos (by simp; omega), iy, obs, ix, obs, obs]
      simp only [Int.toNat_natCast]
      rw [s1, i2, obs, s2, w64 (by omega) (by omega), w64 (by simp; omega) (by simp; omega)]
      have ih := rev_L n M' (A ++ [y]) (x :: B) (by omega) (by simp; omega)
      rw [show ((A.length : Int) + 1) = (((A ++ [y]).length : Nat) : Int) by simp, show (((A ++ x :: M').length : Nat) : Int) - 1 = (((A ++ [y]).length : Nat) : Int) + (M'.length : Int) - 1 by simp; omega, ih]
      simp
    · rw [if_neg (by simp; omega)]
      match M, h2 with
      | [], _ => rfl
      | [_], _ => rfl
      | _ :: _ :: _, h2 => simp at h2
theorem reverse_eq {l : List Int} (h : l.length ≤ 100000) : slices_Reverse_byte_w l = some l.reverse := by
  unfold slices_Reverse_byte_w
  have := rev_L (l.length + 1) l [] [] (by omega) (by simp; omega)
  simp only [List.nil_append, List.append_nil, List.length_nil] at this
  rw [w64 (by omega) (by omega), show (l.length : Int) - 1 = ((0 : Nat) : Int) + (l.length : Int) - 1 by omega, show (0 : Int) = ((0 : Nat) : Int) from rfl, this, obs]

/-! ### The digits of a number. -/
theorem wu64 {n : Int} (h1 : 0 ≤ n) (h2 : n < 18446744073709551616) : w_u64 n = n := by
  show IntKind.u64.wrap n = n
  unfold IntKind.wrap
  simp only [IntKind.bits, IntKind.signed]
  first | omega | (simp; omega) | skip
theorem wu8 {n : Int} (h1 : 0 ≤ n) (h2 : n < 256) : w_u8 n = n := by
  show IntKind.u8.wrap n = n
  unfold IntKind.wrap
  simp only [IntKind.bits, IntKind.signed]
  first | omega | (simp; omega) | skip
def rst : Nat → Nat → List Int
  | 0, _ => []
  | f + 1, m => if 10 ≤ m then ((48 + m / 10 % 10 : Nat) : Int) :: rst f (m / 10) else []
theorem tdiv10 (m : Nat) : Int.tdiv (m : Int) 10 = ((m / 10 : Nat) : Int) := by rw [Int.tdiv_eq_ediv_of_nonneg (by omega)]; omega
theorem tmod10 (m : Nat) : Int.tmod (m : Int) 10 = ((m % 10 : Nat) : Int) := by rw [Int.tmod_eq_emod_of_nonneg (by omega)]; omega
theorem byteD {k : Nat} : w_u8 (w_u64 (48 + ((k % 10 : Nat) : Int))) = ((48 + k % 10 : Nat) : Int) := by
  have : k % 10 < 10 := Nat.mod_lt _ (by omega)
  rw [wu64 (by omega) (by omega), wu8 (by omega) (by omega)]; omega
theorem strL_append (a b : List Int) : strL (a ++ b) = strL a ++ strL b := by simp [strL]
theorem digits_L : ∀ (f m : Nat) (acc : List Int), m < 10 ^ (f + 1) → m < 18446744073709551616 → acc.length + f ≤ 1000 → word_Digits_L1 (f + 1) (m : Int) acc = some (acc ++ rst (f + 1) m)
  | f, m, acc, h, hm, ha => by
    rw [word_Digits_L1]
    by_cases h10 : 10 ≤ m
    · have hd : m / 10 < 10 ^ f := Nat.div_lt_of_lt_mul (by rw [Nat.pow_succ, Nat.mul_comm] at h; exact h)
      cases f with
      | zero => simp at hd; omega
      | succ f =>
        rw [if_pos (by simp; omega), tdiv10, wu64 (n := ((m / 10 : Nat) : Int)) (by omega) (by omega), tmod10, byteD, room_ok (by simp; omega), obs, digits_L f (m / 10) _ hd (by omega) (by simp; omega)]
        rw [show rst (f + 1 + 1) m = ((48 + m / 10 % 10 : Nat) : Int) :: rst (f + 1) (m / 10) by rw [rst, if_pos h10]]
        simp
    · rw [if_neg (by simp; omega), rst, if_neg h10]; simp
theorem rst_len : ∀ (f m : Nat), (rst f m).length ≤ f
  | 0, m => by simp [rst]
  | f + 1, m => by
    rw [rst]; split
    · have := rst_len f (m / 10); simp; omega
    · simp
def digS (a : Int) : List UInt8 := (if a < 0 then [45] else []) ++ (strL (rst 21 a.natAbs).reverse ++ strL [((48 + a.natAbs % 10 : Nat) : Int)])
theorem word_Digits_eq {a : Int} (h1 : -9223372036854775808 ≤ a) (h2 : a ≤ 9223372036854775807) : word_Digits a = some (digS a) := by
  have hu : (if (decide (a < 0)) = true then some (w_u64 (0 - (w_u64 a))) else some (w_u64 a) : Option Int) = some (a.natAbs : Int) := by
    by_cases h0 : a < 0
    · rw [if_pos (by simpa using h0)]
      congr 1
      have : w_u64 a = a + 18446744073709551616 := by
        show IntKind.u64.wrap a = _
        unfold IntKind.wrap
        simp only [IntKind.bits, IntKind.signed]
        first | omega | (simp; omega) | skip
      rw [this]
      show IntKind.u64.wrap _ = _
      unfold IntKind.wrap
      simp only [IntKind.bits, IntKind.signed]
      first | omega | (simp; omega) | skip
    · rw [if_neg (by simpa using h0), wu64 (by omega) (by omega)]
      congr 1; omega
  have hm : a.natAbs ≤ 9223372036854775808 := by omega
  have hl := rst_len 21 a.natAbs
  unfold word_Digits digS
  rw [hu, obs, tmod10, byteD, room_ok (by simp), obs, digits_L 20 a.natAbs _ (by omega) (by omega) (by simp), obs]
  by_cases h0 : a < 0
  · rw [if_pos (by simpa using h0), room_ok (by simp; omega), obs, obs, reverse_eq (by simp; omega), obs, if_pos h0]
    simp [strL]
  · rw [if_neg (by simpa using h0), obs, reverse_eq (by simp; omega), obs, if_neg h0]
    simp [strL]
/-! ### Letters, digits, numbers. -/
theorem fuel_len' (m : Nat) : (((m : Int) : Int) - (0)).toNat + 1 = m + 1 := by omega
def isD (b : UInt8) : Bool := decide (48 ≤ b.toNat ∧ b.toNat ≤ 57)
theorem digit_eq (b : UInt8) : word_Digit (b.toNat : Int) = some (isD b) ∧ ref02_Digit (b.toNat : Int) = some (isD b) := by
  have : ∀ k : Fin 256, word_Digit (k.val : Int) = some (decide (48 ≤ k.val ∧ k.val ≤ 57)) ∧ ref02_Digit (k.val : Int) = some (decide (48 ≤ k.val ∧ k.val ≤ 57)) := by decide +kernel
  exact this ⟨b.toNat, b.toNat_lt⟩
theorem and15 (b : UInt8) (h : isD b = true) : andI .u8 (b.toNat : Int) 15 = ((b.toNat - 48 : Nat) : Int) := by
  have : ∀ k : Fin 256, (48 ≤ k.val ∧ k.val ≤ 57) → andI .u8 (k.val : Int) 15 = ((k.val - 48 : Nat) : Int) := by decide +kernel
  exact this ⟨b.toNat, b.toNat_lt⟩ (of_decide_eq_true h)
/-- The number that digits say; none, where one is no digit. -/
def numS : List UInt8 → Nat → Option Nat
  | [], n => some n
  | b :: l, n => if isD b = true then numS l (10 * n + (b.toNat - 48)) else none
def numC : Option Nat → Ctl (Int × Bool) Int
  | some n => .next (n : Int)
  | none => .stop (0, false)
theorem numW_L {s : List UInt8} (hs : s.length ≤ 9) (u : Unit) : ∀ (n k m : Nat), n + k = s.length + 1 → k ≤ s.length → m < 10 ^ k → word_Number_L1 s u n (m : Int) (k : Int) = some (numC (numS (s.drop k) m))
  | 0, k, m, h, hk, _ => by omega
  | n + 1, k, m, h, hk, hm => by
    have hb : (bytesL s).length = s.length := by simp [bytesL]
    rw [word_Number_L1, hb]
    by_cases hlt : k < s.length
    · have hi : idx (bytesL s) (k : Int) = some (s[k].toNat : Int) := by rw [idx_nat]; simp [bytesL, hlt]
      have hp : 10 ^ k ≤ 10 ^ 8 := Nat.pow_le_pow_right (by omega) (by omega)
      rw [if_pos (by simpa using hlt), hi, obs, (digit_eq s[k]).1, obs, List.drop_eq_getElem_cons hlt]
      simp only [numS]
      by_cases hd : isD s[k] = true
      · have hr := of_decide_eq_true hd
        rw [if_neg (by simp [hd]), if_pos hd, and15 _ hd, w64 (n := 10 * (m : Int)) (by omega) (by omega), w64 (n := ((s[k].toNat - 48 : Nat) : Int)) (by omega) (by omega), w64 (by omega) (by omega), w64_succ hlt (by omega)]
        have := numW_L hs u n (k + 1) (10 * m + (s[k].toNat - 48)) (by omega) (by omega) (by rw [Nat.pow_succ]; omega)
        rw [← this]; congr 1
      · rw [if_pos (by simpa using hd), if_neg hd]; rfl
    · rw [if_neg (by simpa using hlt), List.drop_eq_nil_of_le (by omega)]; rfl
theorem rst_fuel : ∀ (f m : Nat), m < 10 ^ (f + 1) → rst f m = rst (f + 1) m
  | 0, m, h => by rw [rst, rst, if_neg (by simp at h; omega)]
  | f + 1, m, h => by
    rw [rst, rst]
    by_cases h10 : 10 ≤ m
    · rw [if_pos h10, if_pos h10, rst_fuel f (m / 10) (Nat.div_lt_of_lt_mul (by rw [Nat.pow_succ, Nat.mul_comm] at h; exact h))]
    · rw [if_neg h10, if_neg h10]
def D (n : Nat) : List Int := (rst 21 n).reverse ++ [((48 + n % 10 : Nat) : Int)]
theorem D_small {d : Nat} (h : d < 10) : D d = [((48 + d : Nat) : Int)] := by
  unfold D; rw [rst, if_neg (by omega), Nat.mod_eq_of_lt h]; rfl
theorem D_step {k d : Nat} (hk : 1 ≤ k) (hd : d < 10) (hk2 : k < 10 ^ 21) : D (10 * k + d) = D k ++ [((48 + d : Nat) : Int)] := by
  have e1 : (10 * k + d) / 10 = k := by omega
  have e2 : (10 * k + d) % 10 = d := by omega
  unfold D
  rw [show rst 21 (10 * k + d) = ((48 + k % 10 : Nat) : Int) :: rst 20 k by rw [rst, if_pos (by omega), e1], e2, rst_fuel 20 k hk2, List.reverse_cons]
theorem D_head : ∀ (n : Nat), 0 < n → n < 10 ^ 21 → ∃ (x : Nat) (t : List Int), D n = (x : Int) :: t ∧ 48 < x ∧ x ≤ 57 := by
  intro n
  induction n using Nat.strongRecOn with
  | _ n ih =>
    intro h0 h1
    by_cases h10 : n < 10
    · exact ⟨48 + n, [], D_small h10, by omega, by omega⟩
    · obtain ⟨x, t, h2, h3, h4⟩ := ih (n / 10) (by omega) (by omega) (by omega)
      have := D_step (k := n / 10) (d := n % 10) (by omega) (by omega) (by omega)
      rw [show 10 * (n / 10) + n % 10 = n by omega, h2] at this
      exact ⟨x, t ++ [((48 + n % 10 : Nat) : Int)], by rw [this]; rfl, h3, h4⟩
theorem strL_bytesL (s : List UInt8) : strL (bytesL s) = s := by
  unfold strL bytesL
  rw [List.map_map]
  conv => rhs; rw [← List.map_id s]
  apply List.map_congr_left
  intro b _
  simp
theorem digS_nat (n : Nat) : digS (n : Int) = strL (D n) := by
  unfold digS D
  rw [if_neg (by omega), strL_append, Int.natAbs_natCast]; rfl
/-- Digits that begin with no 0 come back. -/
theorem D_num : ∀ (l : List UInt8) (n r : Nat), 0 < n → numS l n = some r → n * 10 ^ l.length + 10 ^ l.length ≤ 10 ^ 20 → D r = D n ++ bytesL l
  | [], n, r, _, h, _ => by simp only [numS, Option.some.injEq] at h; subst h; simp [bytesL]
  | b :: l, n, r, h0, h, hb => by
    simp only [numS] at h
    by_cases hd : isD b = true
    · rw [if_pos hd] at h
      have hr := of_decide_eq_true hd
      rw [List.length_cons, Nat.pow_succ] at hb
      have hpos : 0 < 10 ^ l.length := Nat.pow_pos (by omega)
      have hmul : (10 * n + (b.toNat - 48)) * 10 ^ l.length + 10 ^ l.length ≤ n * (10 ^ l.length * 10) + 10 ^ l.length * 10 := by
        have h9 : (10 * n + (b.toNat - 48) + 1) * 10 ^ l.length ≤ (10 * n + 10) * 10 ^ l.length := Nat.mul_le_mul_right _ (by omega)
        have e1 : (10 * n + (b.toNat - 48) + 1) * 10 ^ l.length = (10 * n + (b.toNat - 48)) * 10 ^ l.length + 10 ^ l.length := Nat.succ_mul _ _
        have e2 : (10 * n + 10) * 10 ^ l.length = n * (10 ^ l.length * 10) + 10 ^ l.length * 10 := by rw [Nat.add_mul, Nat.mul_comm 10 n, Nat.mul_assoc, Nat.mul_comm 10 (10 ^ l.length)]
        omega
      have hn : n < 10 ^ 21 := by
        have : n * 1 ≤ n * (10 ^ l.length * 10) := Nat.mul_le_mul_left _ (by omega)
        omega
      rw [D_num l _ r (by omega) h (by omega), D_step h0 (by omega) hn]
      simp only [bytesL, List.map_cons, List.append_assoc, List.cons_append, List.nil_append]
      rw [show 48 + (b.toNat - 48) = b.toNat by omega]
    · rw [if_neg hd] at h; cases h
theorem numS_lt : ∀ (l : List UInt8) (n r : Nat), numS l n = some r → r + 1 ≤ (n + 1) * 10 ^ l.length
  | [], n, r, h => by simp only [numS, Option.some.injEq] at h; subst h; simp
  | b :: l, n, r, h => by
    simp only [numS] at h
    by_cases hd : isD b = true
    · rw [if_pos hd] at h
      have hr := of_decide_eq_true hd
      have ih := numS_lt l _ r h
      have h9 : (10 * n + (b.toNat - 48) + 1) * 10 ^ l.length ≤ (10 * (n + 1)) * 10 ^ l.length := Nat.mul_le_mul_right _ (by omega)
      have e2 : (10 * (n + 1)) * 10 ^ l.length = (n + 1) * 10 ^ (b :: l).length := by rw [List.length_cons, Nat.pow_succ, Nat.mul_comm 10 (n + 1), Nat.mul_assoc, Nat.mul_comm 10 (10 ^ l.length)]
      omega
    · rw [if_neg hd] at h; cases h
def numberS (s : List UInt8) : Int × Bool := if s.length = 0 ∨ 9 < s.length then (0, false) else if s.head? = some 48 ∧ 1 < s.length then (0, false) else match numS s 0 with | some r => ((r : Int), true) | none => (0, false)
theorem canon {s : List UInt8} {r : Nat} (h0 : s.length ≠ 0) (h9 : s.length ≤ 9) (h : numS s 0 = some r) : (digS (r : Int) == s) = !decide (s.head? = some 48 ∧ 1 < s.length) := by
  have hlt := numS_lt s 0 r h
  have hp : 10 ^ s.length ≤ 10 ^ 9 := Nat.pow_le_pow_right (by omega) h9
  rw [digS_nat, Bool.eq_iff_iff]
  match s, h0 with
  | b :: t, _ =>
    simp only [numS] at h
    by_cases hd : isD b = true
    case neg => rw [if_neg hd] at h; cases h
    rw [if_pos hd] at h
    have hr := of_decide_eq_true hd
    simp only [List.length_cons] at h9 hp hlt
    by_cases h48 : b = 48
    · subst h48
      by_cases ht : t = []
      · subst ht
        simp only [numS, Option.some.injEq] at h
        subst h
        simp [D_small, strL]
      · have hl : 1 < t.length + 1 := by have := List.length_pos_iff.2 ht; omega
        simp only [List.head?_cons, List.length_cons, hl, and_self, decide_true, Bool.not_true, Bool.false_eq_true, iff_false, beq_iff_eq]
        intro e
        by_cases hr0 : r = 0
        · subst hr0
          rw [D_small (by omega)] at e
          have := congrArg List.length e
          simp [strL] at this
          exact ht this
        · obtain ⟨x, t', h1, h2, h3⟩ := D_head r (by omega) (by omega)
          rw [h1] at e
          simp only [strL, List.map_cons, List.cons.injEq, Int.toNat_natCast] at e
          have := congrArg UInt8.toNat e.1
          simp at this
          omega
    · have hn : 0 < b.toNat - 48 := by
        rcases Nat.lt_or_ge 48 b.toNat with h1 | h1
        · omega
        · exact absurd (UInt8.toNat_inj.1 (show b.toNat = (48 : UInt8).toNat by have : (48 : UInt8).toNat = 48 := rfl; omega)) h48
      have hpt : 10 ^ t.length ≤ 10 ^ 8 := Nat.pow_le_pow_right (by omega) (by omega)
      have hle : (b.toNat - 48) * 10 ^ t.length ≤ 9 * 10 ^ 8 := Nat.mul_le_mul (by omega) hpt
      have := D_num t (10 * 0 + (b.toNat - 48)) r (by omega) h (by rw [Nat.mul_zero, Nat.zero_add]; omega)
      rw [this, D_small (by omega), show 48 + (10 * 0 + (b.toNat - 48)) = b.toNat by omega, show [((b.toNat : Nat) : Int)] ++ bytesL t = bytesL (b :: t) from rfl, strL_bytesL]
      simp [h48]
theorem word_Number_eq (s : List UInt8) : word_Number s = some (numberS s) := by
  unfold word_Number numberS
  by_cases h0 : s.length = 0
  · rw [List.length_eq_zero_iff] at h0; subst h0; rfl
  by_cases h9 : 9 < s.length
  · rw [if_neg (by simp; intro e; subst e; simp at h0), obs, if_pos (by simp; omega), if_pos (.inr h9)]
  · have hb : (bytesL s).length = s.length := by simp [bytesL]
    rw [if_neg (by simp; intro e; subst e; simp at h0), obs, if_neg (by simp; omega), room_ok (by omega), obs, hb, fuel_len', if_neg (by omega), show (0 : Int) = ((0 : Nat) : Int) from rfl, numW_L (by omega) () _ 0 0 (by omega) (by omega) (by simp), obs, List.drop_zero]
    cases hn : numS s 0 with
    | none =>
      show some ((0 : Int), false) = _
      split <;> rfl
    | some r =>
      simp only [numC, Ctl.elim]
      have hlt := numS_lt s 0 r hn
      have hp : 10 ^ s.length ≤ 10 ^ 9 := Nat.pow_le_pow_right (by omega) (by omega)
      rw [word_Digits_eq (by omega) (by omega), obs, canon h0 (by omega) hn]
      by_cases hc : s.head? = some 48 ∧ 1 < s.length
      · rw [if_pos (by simp [hc]), if_pos hc]
      · rw [if_neg (by simp [hc]), if_neg hc]
/-! ### The words of the language, and names. -/
def findS (s : List UInt8) : Int := match glob_2.findIdx? (fun y => y == s) with | some i => ((i : Nat) : Int) + 1 | none => 0
theorem findS_nn (s : List UInt8) : 0 ≤ findS s ∧ findS s ≤ 23 := by
  unfold findS
  split
  · rename_i i h
    have := (List.findIdx?_eq_some_iff_getElem.1 h).1
    have e : glob_2.length = 23 := rfl
    omega
  · omega
theorem word_Find_eq (s : List UInt8) : word_Find s = some (findS s) := by
  unfold word_Find word_is slices_IndexFunc_string
  rw [obs, findL (slices_IndexFunc_string_L1 glob_2 (fun z3 => word_is_1 z3 s)) (b := fun y => y == s) (by decide) (fun n x => by simp only [slices_IndexFunc_string_L1, word_is_1, obs]), obs, find_any, obs]
  have h := findS_nn s
  unfold findS at *
  cases hf : glob_2.findIdx? (fun y => y == s) with
  | none => rfl
  | some i => rw [hf] at h; simp only at h ⊢; rw [w64 (by omega) (by omega)]
/-! Names. -/
def isL (b : UInt8) : Bool := (word_Letter (b.toNat : Int)).getD false
theorem letter_some (a : Int) : word_Letter a = some ((word_Letter a).getD false) := by unfold word_Letter; split <;> rfl
theorem word_L (b : UInt8) : word_Letter (b.toNat : Int) = some (isL b) := letter_some _
def isC (b : UInt8) : Bool := isL b || isD b
def nameS (s : List UInt8) : Bool := match s with
  | [] => false
  | b :: t => decide (t.length < 20) && (isL b && ((b :: t).all isC && findS (b :: t) == 0))
theorem idx_bytes {s : List UInt8} {k : Nat} (h : k < s.length) : idx (bytesL s) (k : Int) = some (s[k].toNat : Int) := by
  have hb : k < (bytesL s).length := by simp [bytesL]; exact h
  rw [idx_lt hb]; simp [bytesL]
theorem wName_L {s : List UInt8} (hs : s.length ≤ 1000) : ∀ (n k : Nat), n + k = s.length + 1 → k ≤ s.length → word_Name_L1 s n (k : Int) = some (if (s.drop k).all isC = true then .next () else .stop false)
  | 0, k, h, hk => by omega
  | n + 1, k, h, hk => by
    have hb : (bytesL s).length = s.length := by simp [bytesL]
    simp only [word_Name_L1, hb]
    by_cases hlt : k < s.length
    · rw [if_pos (by simpa using hlt), idx_bytes hlt, obs, word_L, obs, (digit_eq s[k]).1, List.drop_eq_getElem_cons hlt, w64_succ hlt (by omega), wName_L hs n (k + 1) (by omega) (by omega)]
      simp only [List.all_cons, isC]
      rcases Bool.eq_false_or_eq_true (isL s[k]) with h1 | h1 <;> rcases Bool.eq_false_or_eq_true (isD s[k]) with h2 | h2 <;> simp [obs, h1, h2]
    · rw [if_neg (by simpa using hlt), List.drop_eq_nil_of_le (by omega)]; rfl
theorem word_Name_eq (s : List UInt8) : word_Name s = some (nameS s) := by
  unfold word_Name nameS
  match s with
  | [] => rfl
  | b :: t =>
    have hi : idx (b :: t) 0 = some b := rfl
    have hb : (bytesL (b :: t)).length = (b :: t).length := by simp [bytesL]
    by_cases h20 : t.length < 20
    · have e0 : ((b :: t) == ([] : List UInt8)) = false := rfl
      have e1 : decide (((b :: t).length : Int) > 20) = false := by simp; omega
      rw [e0, e1, hi, if_neg (by simp), if_neg (by simp), obs, word_L, obs, obs]
      cases hL : isL b with
      | false => simp [hL]
      | true =>
        rw [if_neg (by simp), room_ok (by simp; omega), obs, hb, fuel_len', show (0 : Int) = ((0 : Nat) : Int) from rfl, wName_L (by simp; omega) _ 0 (by omega) (by omega), obs, List.drop_zero]
        cases hA : (b :: t).all isC with
        | false => rw [if_neg (by simp)]; simp [Ctl.elim, hL, hA]
        | true => rw [if_pos rfl]; simp only [Ctl.elim, word_Find_eq, obs]; simp [h20, hL, hA]
    · have e0 : ((b :: t) == ([] : List UInt8)) = false := rfl
      have e1 : decide (((b :: t).length : Int) > 20) = true := by simp; omega
      rw [e0, e1]
      simp [h20]
theorem numS_app : ∀ (l : List UInt8) (b : UInt8) (n : Nat), isD b = true → numS (l ++ [b]) n = (numS l n).map fun r => 10 * r + (b.toNat - 48)
  | [], b, n, h => by simp [numS, h]
  | c :: l, b, n, h => by
    simp only [List.cons_append, numS]
    by_cases hc : isD c = true
    · rw [if_pos hc, if_pos hc]; exact numS_app l b _ h
    · rw [if_neg hc, if_neg hc]; rfl
theorem isD_of {d : Nat} (h : d < 10) : isD (UInt8.ofNat (48 + d)) = true ∧ (UInt8.ofNat (48 + d)).toNat - 48 = d := by
  have e : (UInt8.ofNat (48 + d)).toNat = 48 + d := by rw [UInt8.toNat_ofNat']; omega
  refine ⟨?_, by rw [e]; omega⟩
  unfold isD
  rw [e]
  simp; omega
theorem strL_one (d : Nat) : strL [((48 + d : Nat) : Int)] = [UInt8.ofNat (48 + d)] := rfl
theorem numS_D : ∀ (n : Nat), n < 10 ^ 20 → numS (strL (D n)) 0 = some n := by
  intro n
  induction n using Nat.strongRecOn with
  | _ n ih =>
    intro hn
    by_cases h : n < 10
    · rw [D_small h, strL_one]
      obtain ⟨h1, h2⟩ := isD_of h
      simp only [numS]; rw [if_pos h1, h2]; simp
    · have e : n = 10 * (n / 10) + n % 10 := by omega
      have hd : n % 10 < 10 := by omega
      rw [e, D_step (by omega) hd (by omega), strL_append, strL_one]
      obtain ⟨h1, h2⟩ := isD_of hd
      rw [numS_app _ _ _ h1, h2, ih (n / 10) (by omega) (by omega)]
      rfl
theorem D_len : ∀ (k n : Nat), n < 10 ^ (k + 1) → k ≤ 19 → (D n).length ≤ k + 1
  | 0, n, h, _ => by rw [D_small (by simpa using h)]; simp
  | k + 1, n, h, hk => by
    by_cases h10 : n < 10
    · rw [D_small h10]; simp
    · have e : n = 10 * (n / 10) + n % 10 := by omega
      have hlt : n / 10 < 10 ^ (k + 1) := by
        rw [Nat.pow_succ] at h
        omega
      have h21 : n / 10 < 10 ^ 21 := Nat.lt_of_lt_of_le hlt (Nat.pow_le_pow_right (by omega) (by omega))
      rw [e, D_step (by omega) (by omega) h21, List.length_append]
      have := D_len k (n / 10) hlt (by omega)
      simp; omega
theorem strL_len (l : List Int) : (strL l).length = l.length := by simp [strL]
theorem numberS_digS {n : Nat} (h : n < 1000000000) : numberS (digS (n : Int)) = ((n : Int), true) := by
  rw [digS_nat]
  have hl := D_len 8 n (by omega) (by omega)
  have hp : 0 < (D n).length := by unfold D; simp
  unfold numberS
  rw [strL_len, if_neg (by omega)]
  have hh : ¬ ((strL (D n)).head? = some 48 ∧ 1 < (D n).length) := by
    rintro ⟨h1, h2⟩
    by_cases h0 : n = 0
    · subst h0; rw [D_small (by omega)] at h2; simp at h2
    · obtain ⟨x, t, e1, e2, e3⟩ := D_head n (by omega) (by omega)
      rw [e1] at h1
      simp only [strL, List.map_cons, List.head?_cons, Option.some.injEq, Int.toNat_natCast] at h1
      have := congrArg UInt8.toNat h1
      simp at this
      omega
  rw [if_neg hh, numS_D n (by omega)]
theorem numberS_back (s : List UInt8) : (numberS s).2 = false ∧ (numberS s).1 = 0 ∨ (numberS s).2 = true ∧ digS (numberS s).1 = s ∧ 0 ≤ (numberS s).1 ∧ (numberS s).1 ≤ 999999999 := by
  unfold numberS
  by_cases h0 : s.length = 0 ∨ 9 < s.length
  · rw [if_pos h0]; exact .inl ⟨rfl, rfl⟩
  rw [if_neg h0]
  by_cases hc : s.head? = some 48 ∧ 1 < s.length
  · rw [if_pos hc]; exact .inl ⟨rfl, rfl⟩
  rw [if_neg hc]
  cases hn : numS s 0 with
  | none => exact .inl ⟨rfl, rfl⟩
  | some r =>
    have hlt := numS_lt s 0 r hn
    have hp : 10 ^ s.length ≤ 10 ^ 9 := Nat.pow_le_pow_right (by omega) (by omega)
    have := canon (by omega) (by omega) hn
    refine .inr ⟨rfl, ?_, by simp, by simp only; omega⟩
    rw [decide_eq_false hc] at this
    simpa using this

/-! ### What a word says as a number. -/
theorem rst_mem : ∀ (f m : Nat) (x : Int), x ∈ rst f m → ∃ d : Nat, d < 10 ∧ x = ((48 + d : Nat) : Int)
  | 0, _, x, h => by simp [rst] at h
  | f + 1, m, x, h => by
    rw [rst] at h
    split at h
    · rcases List.mem_cons.1 h with rfl | h
      · exact ⟨m / 10 % 10, Nat.mod_lt _ (by omega), rfl⟩
      · exact rst_mem f _ x h
    · cases h
theorem strL_mem {l : List Int} {b : UInt8} (h : b ∈ strL l) : ∃ x ∈ l, b = UInt8.ofNat x.toNat := by
  unfold strL at h
  obtain ⟨x, hx, rfl⟩ := List.mem_map.1 h
  exact ⟨x, hx, rfl⟩
theorem digS_mem {a : Int} {b : UInt8} (h : b ∈ digS a) : (b = 45 ∧ a < 0) ∨ (48 ≤ b.toNat ∧ b.toNat ≤ 57) := by
  have key : ∀ d : Nat, d < 10 → b = UInt8.ofNat (((48 + d : Nat) : Int)).toNat → 48 ≤ b.toNat ∧ b.toNat ≤ 57 := by
    intro d hd e
    rw [e, Int.toNat_natCast, UInt8.toNat_ofNat']
    omega
  unfold digS at h
  rcases List.mem_append.1 h with h | h
  · split at h
    · rename_i h0; simp at h; exact .inl ⟨h, h0⟩
    · cases h
  · right
    rcases List.mem_append.1 h with h | h
    · obtain ⟨x, hx, e⟩ := strL_mem h
      obtain ⟨d, hd, rfl⟩ := rst_mem _ _ _ (List.mem_reverse.1 hx)
      exact key d hd e
    · obtain ⟨x, hx, e⟩ := strL_mem h
      simp only [List.mem_singleton] at hx
      subst hx
      exact key _ (Nat.mod_lt _ (by omega)) e
theorem digS_free {a : Int} {c : UInt8} (hc : c.toNat < 45) : c ∉ digS a := by
  intro h
  rcases digS_mem h with ⟨rfl, _⟩ | ⟨h1, _⟩
  · simp at hc
  · omega
theorem digS_neg {n : Nat} (h : 0 < n) : digS (-(n : Int)) = 45 :: digS (n : Int) := by
  unfold digS
  rw [if_pos (by omega), if_neg (by omega), Int.natAbs_neg]; rfl
theorem digS_ne (a : Int) : digS a ≠ [] := by
  unfold digS
  intro h
  have := congrArg List.length h
  simp [strL] at this
theorem digS_nn_head {a : Int} (h : 0 ≤ a) : ∀ t, digS a ≠ 45 :: t := by
  intro t e
  rcases digS_mem (a := a) (b := 45) (by rw [e]; simp) with ⟨_, h1⟩ | ⟨h1, _⟩
  · omega
  · simp at h1
def numI : List UInt8 → Int
  | [] => 0
  | b :: t => if b = 45 then -(numberS t).1 else (numberS (b :: t)).1
theorem numI_cons (b : UInt8) (t : List UInt8) : numI (b :: t) = if b = 45 then -(numberS t).1 else (numberS (b :: t)).1 := rfl
def numOk (s : List UInt8) : Bool := decide (digS (numI s) = s)
theorem numI_range (s : List UInt8) : -999999999 ≤ numI s ∧ numI s ≤ 999999999 := by
  have key : ∀ t, 0 ≤ (numberS t).1 ∧ (numberS t).1 ≤ 999999999 := by
    intro t
    rcases numberS_back t with ⟨_, h⟩ | ⟨_, _, h1, h2⟩
    · omega
    · exact ⟨h1, h2⟩
  cases s with
  | nil => simp [numI]
  | cons b t =>
    rw [numI_cons]
    split
    · have := key t; omega
    · have := key (b :: t); omega
theorem digS_zero : digS 0 = [48] := by decide +kernel
theorem numberS_48 : numberS [48] = (0, true) := by decide +kernel
/-- A word with a byte 45 ahead. -/
theorem num_minus (t : List UInt8) : ((numberS t).2 && (numberS t).1 != 0) = numOk (45 :: t) := by
  unfold numOk
  have e : numI (45 :: t) = -(numberS t).1 := by simp [numI]
  rw [e]
  rcases numberS_back t with ⟨h1, h2⟩ | ⟨h1, h2, h3, h4⟩
  · rw [h1, h2]
    simp only [Bool.false_and, Int.neg_zero, digS_zero]
    exact (decide_eq_false (by intro h; injection h with h; exact absurd h (by decide))).symm
  · rw [h1]
    obtain ⟨n, hn⟩ : ∃ n : Nat, (numberS t).1 = (n : Int) := ⟨(numberS t).1.toNat, by omega⟩
    rw [hn] at h2 ⊢
    by_cases h0 : n = 0
    · subst h0
      simp only [Int.natCast_zero, Int.neg_zero, digS_zero]
      exact (decide_eq_false (by intro h; injection h with h; exact absurd h (by decide))).symm
    · rw [digS_neg (by omega), h2]
      simp; omega
/-- .. without one. -/
theorem num_plain {s : List UInt8} (h : ∀ t, s ≠ 45 :: t) : (numberS s).2 = numOk s ∧ numI s = (numberS s).1 := by
  have e : numI s = (numberS s).1 := by
    cases s with
    | nil => decide +kernel
    | cons b t => rw [numI_cons, if_neg (fun hb => h t (by rw [hb]))]
  refine ⟨?_, e⟩
  unfold numOk
  rw [e]
  rcases numberS_back s with ⟨h1, h2⟩ | ⟨h1, h2, h3, h4⟩
  · rw [h1, h2, digS_zero]
    refine (decide_eq_false ?_).symm
    intro h
    rw [← h, numberS_48] at h1
    cases h1
  · rw [h1, decide_eq_true h2]
theorem numI_digS {a : Int} (h1 : -999999999 ≤ a) (h2 : a ≤ 999999999) : numI (digS a) = a := by
  by_cases h : 0 ≤ a
  · obtain ⟨n, rfl⟩ : ∃ n : Nat, a = (n : Int) := ⟨a.toNat, by omega⟩
    rw [(num_plain (digS_nn_head h)).2, numberS_digS (by omega)]
  · obtain ⟨n, rfl⟩ : ∃ n : Nat, a = -(n : Int) := ⟨(-a).toNat, by omega⟩
    rw [digS_neg (by omega)]
    simp only [numI, if_true]
    rw [numberS_digS (by omega)]
theorem nameS_free {s : List UInt8} {c : UInt8} (hc : isC c = false) (h : nameS s = true) : c ∉ s := by
  intro hm
  cases s with
  | nil => cases hm
  | cons b t =>
    simp only [nameS, Bool.and_eq_true] at h
    replace h := h.2
    rcases List.mem_cons.1 hm with rfl | hm
    · have : isC c = true := by unfold isC; simp [h.1]
      rw [hc] at this; cases this
    · have := List.all_eq_true.1 h.2.1 c (List.mem_cons_of_mem _ hm)
      rw [hc] at this; cases this
theorem isC_32 : isC 32 = false := by decide +kernel
theorem isC_10 : isC 10 = false := by decide +kernel

/-! ### Words of events. -/
def valS (v : GVal) : List UInt8 := if v.fRef = true then 64 :: digS v.fN else digS v.fN
def valI : List UInt8 → GVal
  | [] => { fRef := false, fN := 0 }
  | b :: t => if b = 64 then { fRef := true, fN := numI t } else { fRef := false, fN := numI (b :: t) }
theorem valI_cons (b : UInt8) (t : List UInt8) : valI (b :: t) = if b = 64 then { fRef := true, fN := numI t } else { fRef := false, fN := numI (b :: t) } := rfl
def valOk (w : List UInt8) : Bool := decide (valS (valI w) = w)
theorem event_number_eq (w : List UInt8) : event_number w = some (numI w, numOk w) := by
  unfold event_number
  rw [cutprefix_one, obs]
  cases w with
  | nil =>
    simp only
    rw [word_Number_eq, obs]
    decide +kernel
  | cons b t =>
    by_cases hb : b = 45
    · subst hb
      simp only [if_true]
      rw [word_Number_eq, obs]
      have hn : 0 ≤ (numberS t).1 ∧ (numberS t).1 ≤ 999999999 := by
        rcases numberS_back t with ⟨_, h⟩ | ⟨_, _, h1, h2⟩
        · omega
        · exact ⟨h1, h2⟩
      have hm := num_minus t
      rw [w64 (by omega) (by omega), ← hm, numI_cons, if_pos rfl, show 0 - (numberS t).1 = -(numberS t).1 by omega]
      cases (numberS t).2 <;> rfl
    · simp only [if_neg hb]
      rw [word_Number_eq, obs]
      obtain ⟨h1, h2⟩ := num_plain (s := b :: t) (fun t' e => hb (by injection e))
      rw [← h1, h2]; rfl
theorem hearV (w : List UInt8) : (Option.bind (strings_CutPrefix w [64]) fun y => Option.bind (event_number y.1) fun z => some (z.2, ({ fRef := y.2, fN := z.1 } : GVal))) = some (valOk w, valI w) := by
  rw [cutprefix_one, obs]
  cases w with
  | nil =>
    simp only
    rw [event_number_eq, obs]
    decide +kernel
  | cons b t =>
    by_cases hb : b = 64
    · subst hb
      simp only [if_true]
      rw [event_number_eq, obs]
      have : valOk (64 :: t) = numOk t := by
        unfold valOk numOk
        rw [valI_cons, if_pos rfl]
        simp [valS]
      rw [this, valI_cons, if_pos rfl]
    · simp only [if_neg hb]
      rw [event_number_eq, obs]
      have : valOk (b :: t) = numOk (b :: t) := by
        unfold valOk numOk
        rw [valI_cons, if_neg hb]
        simp [valS]
      rw [this, valI_cons, if_neg hb]
theorem valS_free {v : GVal} {c : UInt8} (hc : c.toNat < 45) : c ∉ valS v := by
  unfold valS
  split
  · intro h
    rcases List.mem_cons.1 h with h | h
    · subst h; simp at hc
    · exact digS_free hc h
  · exact digS_free hc
/-! ### What a word of a pattern hears. -/
theorem hear_o (w : List UInt8) (e : GEvent) : event_hear_w [35, 111] w e = some (numOk w, { e with fObj := numI w }) := by unfold event_hear_w; rw [event_number_eq]; rfl
theorem hear_w (w : List UInt8) (e : GEvent) : event_hear_w [35, 119] w e = some (numOk w, { e with fWho := numI w }) := by unfold event_hear_w; rw [event_number_eq]; rfl
theorem hear_0 (w : List UInt8) (e : GEvent) : event_hear_w [35, 48] w e = some (numOk w, { e with fOwn := { e.fOwn with a0 := numI w } }) := by unfold event_hear_w; rw [event_number_eq]; rfl
theorem hear_1 (w : List UInt8) (e : GEvent) : event_hear_w [35, 49] w e = some (numOk w, { e with fOwn := { e.fOwn with a1 := numI w } }) := by unfold event_hear_w; rw [event_number_eq]; rfl
theorem hear_2 (w : List UInt8) (e : GEvent) : event_hear_w [35, 50] w e = some (numOk w, { e with fOwn := { e.fOwn with a2 := numI w } }) := by unfold event_hear_w; rw [event_number_eq]; rfl
theorem hear_3 (w : List UInt8) (e : GEvent) : event_hear_w [35, 51] w e = some (numOk w, { e with fOwn := { e.fOwn with a3 := numI w } }) := by unfold event_hear_w; rw [event_number_eq]; rfl
theorem hear_name (w : List UInt8) (e : GEvent) : event_hear_w [36] w e = some (nameS w, { e with fName := w }) := by unfold event_hear_w; rw [word_Name_eq]; rfl
theorem hear_val (w : List UInt8) (e : GEvent) : event_hear_w [64] w e = some (valOk w, { e with fV := valI w }) := by
  have h := hearV w
  unfold event_hear_w
  rw [show idx ([64] : List UInt8) 0 = some 64 from rfl, obs, if_neg (by decide), if_neg (by decide), if_pos (by decide)]
  rw [cutprefix_one, obs] at h ⊢
  rw [event_number_eq, obs] at h ⊢
  injection h with h
  injection h with h1 h2
  rw [← h1, ← h2]
theorem hear_lit {b : UInt8} {t : List UInt8} (w : List UInt8) (e : GEvent) (h1 : b ≠ 35) (h2 : b ≠ 36) (h3 : b ≠ 64) : event_hear_w (b :: t) w e = some ((b :: t) == w, e) := by
  have key : ∀ c : UInt8, b ≠ c → ¬ (((b.toNat : Int) == (c.toNat : Int)) = true) := by
    intro c hc h
    apply hc
    have : b.toNat = c.toNat := by have := beq_iff_eq.1 h; omega
    exact UInt8.toNat_inj.1 this
  unfold event_hear_w
  rw [show idx (b :: t) 0 = some b from rfl, obs, if_neg (show ¬ (((b.toNat : Int) == 35) = true) from key 35 h1), if_neg (show ¬ (((b.toNat : Int) == 36) = true) from key 36 h2), if_neg (show ¬ (((b.toNat : Int) == 64) = true) from key 64 h3)]
def hearL : List (List UInt8) → List (List UInt8) → GEvent → Option GEvent
  | p :: ps, w :: ws, e => match event_hear_w p w e with
    | some r => bif r.1 then hearL ps ws r.2 else none
    | none => none
  | _, _, e => some e
theorem read_L {hv wt : List (List UInt8)} (hl : wt.length = hv.length) (hs : wt.length ≤ 1000) (hok : ∀ p ∈ wt, ∀ w e, ∃ r, event_hear_w p w e = some r) :
    ∀ (n k : Nat) (e : GEvent), n + k = wt.length + 1 → k ≤ wt.length → event_read_L1 hv wt n e (k : Int) = some (match hearL (wt.drop k) (hv.drop k) e with | some e' => .next e' | none => .stop (zGEvent, false))
  | 0, k, e, h, hk => by omega
  | n + 1, k, e, h, hk => by
    unfold event_read_L1
    by_cases hlt : k < wt.length
    · have hlt' : k < hv.length := by omega
      rw [if_pos (by rw [decide_eq_true_eq]; omega), idx_lt hlt, obs, idx_lt hlt', obs]
      obtain ⟨r, hr⟩ := hok wt[k] (List.getElem_mem hlt) hv[k] e
      rw [hr, obs, List.drop_eq_getElem_cons hlt, List.drop_eq_getElem_cons hlt']
      simp only [hearL]
      rw [hr]
      simp only
      cases hr1 : r.1 with
      | false => simp
      | true =>
        rw [if_neg (by simp), w64_succ hlt (by omega), read_L hl hs hok n (k + 1) r.2 (by omega) (by omega)]
        simp
    · rw [if_neg (by rw [decide_eq_true_eq]; omega), List.drop_of_length_le (by omega), List.drop_of_length_le (by omega)]
      rfl
theorem bcond {α : Type} (a b : Bool) (x : Option α) : (bif a then (bif b then x else none) else none) = (bif (a && b) then x else none) := by cases a <;> rfl

/-! ### The patterns' words. -/
def patS (k : Nat) : List (List UInt8) := match k with
  | 1 => [[110, 101, 119], [35, 111], [36], [98, 121], [35, 119], [105, 110], [35, 48], [35, 49], [35, 50], [35, 51]]
  | 2 => [[112, 117, 116], [35, 111], [36], [98, 121], [35, 119], [64]]
  | 3 => [[99, 97, 108, 108], [35, 111], [36], [98, 121], [35, 119]]
  | 4 => [[98, 97, 99, 107], [35, 119], [64]]
  | 5 => [[109, 111, 118, 101], [35, 111], [116, 111], [35, 48], [98, 121], [35, 119]]
  | 6 => [[100, 101, 108, 101, 116, 101], [35, 111], [98, 121], [35, 119]]
  | _ => []
theorem fields1 : Option.bind (event_pattern 1) strings_Fields = some (patS 1) := by decide +kernel
theorem fields2 : Option.bind (event_pattern 2) strings_Fields = some (patS 2) := by decide +kernel
theorem fields3 : Option.bind (event_pattern 3) strings_Fields = some (patS 3) := by decide +kernel
theorem fields4 : Option.bind (event_pattern 4) strings_Fields = some (patS 4) := by decide +kernel
theorem fields5 : Option.bind (event_pattern 5) strings_Fields = some (patS 5) := by decide +kernel
theorem fields6 : Option.bind (event_pattern 6) strings_Fields = some (patS 6) := by decide +kernel
theorem awake42 : law42_awake = some true := by decide +kernel

/-! ### Events that are right. -/
theorem bG_iff {a b : GEvent} : bGEvent a b = true ↔ a = b := by
  obtain ⟨k, w, o, n, ⟨r, v⟩, ⟨x0, x1, x2, x3⟩⟩ := a
  obtain ⟨k', w', o', n', ⟨r', v'⟩, ⟨y0, y1, y2, y3⟩⟩ := b
  unfold bGEvent
  simp [and_assoc]
theorem bG_self (a : GEvent) : bGEvent a a = true := bG_iff.2 rfl
theorem bG_dec (a b : GEvent) : bGEvent a b = decide (a = b) := by
  rw [Bool.eq_iff_iff, bG_iff, decide_eq_true_eq]
theorem lit_free {l : List UInt8} {c : UInt8} (hc : c.toNat ≤ 32) (hl : l.all (fun b => decide (33 ≤ b.toNat)) = true) : c ∉ l := by
  intro h
  have := List.all_eq_true.1 hl c h
  rw [decide_eq_true_eq] at this
  omega
theorem only_1 {e : GEvent} (h : e.fKind = 1) : ref42_only e = some { fKind := 1, fWho := e.fWho, fObj := e.fObj, fName := e.fName, fV := zGVal, fOwn := e.fOwn } := by
  obtain ⟨k, w, o, n, v, ow⟩ := e; simp only at h; subst h; rfl
theorem only_2 {e : GEvent} (h : e.fKind = 2) : ref42_only e = some { fKind := 2, fWho := e.fWho, fObj := e.fObj, fName := e.fName, fV := e.fV, fOwn := ⟨0, 0, 0, 0⟩ } := by
  obtain ⟨k, w, o, n, v, ow⟩ := e; simp only at h; subst h; rfl
theorem only_3 {e : GEvent} (h : e.fKind = 3) : ref42_only e = some { fKind := 3, fWho := e.fWho, fObj := e.fObj, fName := e.fName, fV := zGVal, fOwn := ⟨0, 0, 0, 0⟩ } := by
  obtain ⟨k, w, o, n, v, ow⟩ := e; simp only at h; subst h; rfl
theorem only_4 {e : GEvent} (h : e.fKind = 4) : ref42_only e = some { fKind := 4, fWho := e.fWho, fObj := 0, fName := [], fV := e.fV, fOwn := ⟨0, 0, 0, 0⟩ } := by
  obtain ⟨k, w, o, n, v, ow⟩ := e; simp only at h; subst h; rfl
theorem only_5 {e : GEvent} (h : e.fKind = 5) : ref42_only e = some { fKind := 5, fWho := e.fWho, fObj := e.fObj, fName := [], fV := zGVal, fOwn := ⟨e.fOwn.a0, 0, 0, 0⟩ } := by
  obtain ⟨k, w, o, n, v, ow⟩ := e; simp only at h; subst h; rfl
theorem only_6 {e : GEvent} (h : e.fKind = 6) : ref42_only e = some { fKind := 6, fWho := e.fWho, fObj := e.fObj, fName := [], fV := zGVal, fOwn := ⟨0, 0, 0, 0⟩ } := by
  obtain ⟨k, w, o, n, v, ow⟩ := e; simp only at h; subst h; rfl
def rightS (e : GEvent) : Bool := decide (1 ≤ e.fKind) && (decide (e.fKind ≤ 6) && (bGEvent e ((ref42_only e).getD zGEvent) && (decide (3 < e.fKind) || nameS e.fName)))
theorem kind_cases {a : Int} (h1 : 1 ≤ a) (h2 : a ≤ 6) : a = 1 ∨ a = 2 ∨ a = 3 ∨ a = 4 ∨ a = 5 ∨ a = 6 := by omega
theorem rightS_1 {e : GEvent} (h : e.fKind = 1) : rightS e = (decide (e = { fKind := 1, fWho := e.fWho, fObj := e.fObj, fName := e.fName, fV := zGVal, fOwn := e.fOwn }) && nameS e.fName) := by
  unfold rightS
  rw [only_1 h, Option.getD_some, bG_dec, h]; rfl
theorem rightS_2 {e : GEvent} (h : e.fKind = 2) : rightS e = (decide (e = { fKind := 2, fWho := e.fWho, fObj := e.fObj, fName := e.fName, fV := e.fV, fOwn := ⟨0, 0, 0, 0⟩ }) && nameS e.fName) := by
  unfold rightS
  rw [only_2 h, Option.getD_some, bG_dec, h]; rfl
theorem rightS_3 {e : GEvent} (h : e.fKind = 3) : rightS e = (decide (e = { fKind := 3, fWho := e.fWho, fObj := e.fObj, fName := e.fName, fV := zGVal, fOwn := ⟨0, 0, 0, 0⟩ }) && nameS e.fName) := by
  unfold rightS
  rw [only_3 h, Option.getD_some, bG_dec, h]; rfl
theorem rightS_4 {e : GEvent} (h : e.fKind = 4) : rightS e = decide (e = { fKind := 4, fWho := e.fWho, fObj := 0, fName := [], fV := e.fV, fOwn := ⟨0, 0, 0, 0⟩ }) := by
  unfold rightS
  rw [only_4 h, Option.getD_some, bG_dec, h]
  exact Bool.and_true _
theorem rightS_5 {e : GEvent} (h : e.fKind = 5) : rightS e = decide (e = { fKind := 5, fWho := e.fWho, fObj := e.fObj, fName := [], fV := zGVal, fOwn := ⟨e.fOwn.a0, 0, 0, 0⟩ }) := by
  unfold rightS
  rw [only_5 h, Option.getD_some, bG_dec, h]
  exact Bool.and_true _
theorem rightS_6 {e : GEvent} (h : e.fKind = 6) : rightS e = decide (e = { fKind := 6, fWho := e.fWho, fObj := e.fObj, fName := [], fV := zGVal, fOwn := ⟨0, 0, 0, 0⟩ }) := by
  unfold rightS
  rw [only_6 h, Option.getD_some, bG_dec, h]
  exact Bool.and_true _
theorem rightS_kind {e : GEvent} (h : rightS e = true) : 1 ≤ e.fKind ∧ e.fKind ≤ 6 ∧ (e.fKind ≤ 3 → nameS e.fName = true) := by
  unfold rightS at h
  simp only [Bool.and_eq_true, Bool.or_eq_true, decide_eq_true_eq] at h
  obtain ⟨h1, h2, _, h3⟩ := h
  exact ⟨h1, h2, fun h4 => h3.resolve_left (by omega)⟩

/-! ### The kinds of events (printed by gen_events.py). -/
def wordsS (e : GEvent) : List (List UInt8) := if e.fKind = 1 then [[110, 101, 119], digS e.fObj, e.fName, [98, 121], digS e.fWho, [105, 110], digS e.fOwn.a0, digS e.fOwn.a1, digS e.fOwn.a2, digS e.fOwn.a3] else if e.fKind = 2 then [[112, 117, 116], digS e.fObj, e.fName, [98, 121], digS e.fWho, valS e.fV] else if e.fKind = 3 then [[99, 97, 108, 108], digS e.fObj, e.fName, [98, 121], digS e.fWho] else if e.fKind = 4 then [[98, 97, 99, 107], digS e.fWho, valS e.fV] else if e.fKind = 5 then [[109, 111, 118, 101], digS e.fObj, [116, 111], digS e.fOwn.a0, [98, 121], digS e.fWho] else if e.fKind = 6 then [[100, 101, 108, 101, 116, 101], digS e.fObj, [98, 121], digS e.fWho] else []
theorem wordsS_1 {e : GEvent} (h : e.fKind = 1) : wordsS e = [[110, 101, 119], digS e.fObj, e.fName, [98, 121], digS e.fWho, [105, 110], digS e.fOwn.a0, digS e.fOwn.a1, digS e.fOwn.a2, digS e.fOwn.a3] := by
  unfold wordsS
  rw [if_pos h]
theorem wordsS_2 {e : GEvent} (h : e.fKind = 2) : wordsS e = [[112, 117, 116], digS e.fObj, e.fName, [98, 121], digS e.fWho, valS e.fV] := by
  unfold wordsS
  rw [if_neg (by rw [h]; decide), if_pos h]
theorem wordsS_3 {e : GEvent} (h : e.fKind = 3) : wordsS e = [[99, 97, 108, 108], digS e.fObj, e.fName, [98, 121], digS e.fWho] := by
  unfold wordsS
  rw [if_neg (by rw [h]; decide), if_neg (by rw [h]; decide), if_pos h]
theorem wordsS_4 {e : GEvent} (h : e.fKind = 4) : wordsS e = [[98, 97, 99, 107], digS e.fWho, valS e.fV] := by
  unfold wordsS
  rw [if_neg (by rw [h]; decide), if_neg (by rw [h]; decide), if_neg (by rw [h]; decide), if_pos h]
theorem wordsS_5 {e : GEvent} (h : e.fKind = 5) : wordsS e = [[109, 111, 118, 101], digS e.fObj, [116, 111], digS e.fOwn.a0, [98, 121], digS e.fWho] := by
  unfold wordsS
  rw [if_neg (by rw [h]; decide), if_neg (by rw [h]; decide), if_neg (by rw [h]; decide), if_neg (by rw [h]; decide), if_pos h]
theorem wordsS_6 {e : GEvent} (h : e.fKind = 6) : wordsS e = [[100, 101, 108, 101, 116, 101], digS e.fObj, [98, 121], digS e.fWho] := by
  unfold wordsS
  rw [if_neg (by rw [h]; decide), if_neg (by rw [h]; decide), if_neg (by rw [h]; decide), if_neg (by rw [h]; decide), if_neg (by rw [h]; decide), if_pos h]
def candS (k : Nat) (ws : List (List UInt8)) : GEvent := match k with
  | 1 => { fKind := 1, fWho := numI (ws.getD 4 []), fObj := numI (ws.getD 1 []), fName := ws.getD 2 [], fV := zGVal, fOwn := ⟨numI (ws.getD 6 []), numI (ws.getD 7 []), numI (ws.getD 8 []), numI (ws.getD 9 [])⟩ }
  | 2 => { fKind := 2, fWho := numI (ws.getD 4 []), fObj := numI (ws.getD 1 []), fName := ws.getD 2 [], fV := valI (ws.getD 5 []), fOwn := ⟨0, 0, 0, 0⟩ }
  | 3 => { fKind := 3, fWho := numI (ws.getD 4 []), fObj := numI (ws.getD 1 []), fName := ws.getD 2 [], fV := zGVal, fOwn := ⟨0, 0, 0, 0⟩ }
  | 4 => { fKind := 4, fWho := numI (ws.getD 1 []), fObj := 0, fName := [], fV := valI (ws.getD 2 []), fOwn := ⟨0, 0, 0, 0⟩ }
  | 5 => { fKind := 5, fWho := numI (ws.getD 5 []), fObj := numI (ws.getD 1 []), fName := [], fV := zGVal, fOwn := ⟨numI (ws.getD 3 []), 0, 0, 0⟩ }
  | 6 => { fKind := 6, fWho := numI (ws.getD 3 []), fObj := numI (ws.getD 1 []), fName := [], fV := zGVal, fOwn := ⟨0, 0, 0, 0⟩ }
  | _ => zGEvent
def okB (k : Nat) (ws : List (List UInt8)) : Bool := match k with
  | 1 => decide (ws.length = 10) && (([110, 101, 119] == ws.getD 0 []) && (numOk (ws.getD 1 []) && (nameS (ws.getD 2 []) && (([98, 121] == ws.getD 3 []) && (numOk (ws.getD 4 []) && (([105, 110] == ws.getD 5 []) && (numOk (ws.getD 6 []) && (numOk (ws.getD 7 []) && (numOk (ws.getD 8 []) && numOk (ws.getD 9 []))))))))))
  | 2 => decide (ws.length = 6) && (([112, 117, 116] == ws.getD 0 []) && (numOk (ws.getD 1 []) && (nameS (ws.getD 2 []) && (([98, 121] == ws.getD 3 []) && (numOk (ws.getD 4 []) && valOk (ws.getD 5 []))))))
  | 3 => decide (ws.length = 5) && (([99, 97, 108, 108] == ws.getD 0 []) && (numOk (ws.getD 1 []) && (nameS (ws.getD 2 []) && (([98, 121] == ws.getD 3 []) && numOk (ws.getD 4 [])))))
  | 4 => decide (ws.length = 3) && (([98, 97, 99, 107] == ws.getD 0 []) && (numOk (ws.getD 1 []) && valOk (ws.getD 2 [])))
  | 5 => decide (ws.length = 6) && (([109, 111, 118, 101] == ws.getD 0 []) && (numOk (ws.getD 1 []) && (([116, 111] == ws.getD 2 []) && (numOk (ws.getD 3 []) && (([98, 121] == ws.getD 4 []) && numOk (ws.getD 5 []))))))
  | 6 => decide (ws.length = 4) && (([100, 101, 108, 101, 116, 101] == ws.getD 0 []) && (numOk (ws.getD 1 []) && (([98, 121] == ws.getD 2 []) && numOk (ws.getD 3 []))))
  | _ => false
theorem len_3 {α : Type} {ws : List α} (h : ws.length = 3) : ∃ w0 w1 w2, ws = [w0, w1, w2] := by
  match ws, h with
  | [w0, w1, w2], _ => exact ⟨w0, w1, w2, rfl⟩
theorem len_4 {α : Type} {ws : List α} (h : ws.length = 4) : ∃ w0 w1 w2 w3, ws = [w0, w1, w2, w3] := by
  match ws, h with
  | [w0, w1, w2, w3], _ => exact ⟨w0, w1, w2, w3, rfl⟩
theorem len_5 {α : Type} {ws : List α} (h : ws.length = 5) : ∃ w0 w1 w2 w3 w4, ws = [w0, w1, w2, w3, w4] := by
  match ws, h with
  | [w0, w1, w2, w3, w4], _ => exact ⟨w0, w1, w2, w3, w4, rfl⟩
theorem len_6 {α : Type} {ws : List α} (h : ws.length = 6) : ∃ w0 w1 w2 w3 w4 w5, ws = [w0, w1, w2, w3, w4, w5] := by
  match ws, h with
  | [w0, w1, w2, w3, w4, w5], _ => exact ⟨w0, w1, w2, w3, w4, w5, rfl⟩
theorem len_10 {α : Type} {ws : List α} (h : ws.length = 10) : ∃ w0 w1 w2 w3 w4 w5 w6 w7 w8 w9, ws = [w0, w1, w2, w3, w4, w5, w6, w7, w8, w9] := by
  match ws, h with
  | [w0, w1, w2, w3, w4, w5, w6, w7, w8, w9], _ => exact ⟨w0, w1, w2, w3, w4, w5, w6, w7, w8, w9, rfl⟩
theorem hears_1 : ∀ p ∈ patS 1, ∀ w e, ∃ r, event_hear_w p w e = some r := by
  intro p hp w e
  simp only [patS, List.mem_cons, List.not_mem_nil, or_false] at hp
  rcases hp with rfl | rfl | rfl | rfl | rfl | rfl | rfl | rfl | rfl | rfl
  · exact ⟨_, hear_lit (b := 110) (t := [101, 119]) w e (by decide) (by decide) (by decide)⟩
  · exact ⟨_, hear_o w e⟩
  · exact ⟨_, hear_name w e⟩
  · exact ⟨_, hear_lit (b := 98) (t := [121]) w e (by decide) (by decide) (by decide)⟩
  · exact ⟨_, hear_w w e⟩
  · exact ⟨_, hear_lit (b := 105) (t := [110]) w e (by decide) (by decide) (by decide)⟩
  · exact ⟨_, hear_0 w e⟩
  · exact ⟨_, hear_1 w e⟩
  · exact ⟨_, hear_2 w e⟩
  · exact ⟨_, hear_3 w e⟩
theorem heard_1 (w0 w1 w2 w3 w4 w5 w6 w7 w8 w9 : List UInt8) : hearL (patS 1) [w0, w1, w2, w3, w4, w5, w6, w7, w8, w9] { fKind := 1, fWho := 0, fObj := 0, fName := [], fV := zGVal, fOwn := ⟨0, 0, 0, 0⟩ } = bif (([110, 101, 119] == w0) && (numOk (w1) && (nameS (w2) && (([98, 121] == w3) && (numOk (w4) && (([105, 110] == w5) && (numOk (w6) && (numOk (w7) && (numOk (w8) && numOk (w9)))))))))) then some ({ fKind := 1, fWho := numI (w4), fObj := numI (w1), fName := w2, fV := zGVal, fOwn := ⟨numI (w6), numI (w7), numI (w8), numI (w9)⟩ } : GEvent) else none := by
  simp only [patS, hearL]
  rw [hear_lit (b := 110) (t := [101, 119]) w0 _ (by decide) (by decide) (by decide)]
  simp only
  rw [hear_o w1]
  simp only
  rw [hear_name w2]
  simp only
  rw [hear_lit (b := 98) (t := [121]) w3 _ (by decide) (by decide) (by decide)]
  simp only
  rw [hear_w w4]
  simp only
  rw [hear_lit (b := 105) (t := [110]) w5 _ (by decide) (by decide) (by decide)]
  simp only
  rw [hear_0 w6]
  simp only
  rw [hear_1 w7]
  simp only
  rw [hear_2 w8]
  simp only
  rw [hear_3 w9]
  simp only
  simp only [bcond]
theorem read_eq1 {s : List UInt8} (hs : s.length ≤ 10000000) : event_read 1 s = some (if okB 1 (spl 32 s) = true then (candS 1 (spl 32 s), true) else (zGEvent, false)) := by
  unfold event_read
  rw [split_one 32 hs, obs, ← Option.bind_assoc, fields1, obs]
  generalize spl 32 s = ws
  by_cases hl : ws.length = 10
  · obtain ⟨w0, w1, w2, w3, w4, w5, w6, w7, w8, w9, rfl⟩ := len_10 hl
    have hL : event_read_L1 [w0, w1, w2, w3, w4, w5, w6, w7, w8, w9] (patS 1) 11 { fKind := 1, fWho := 0, fObj := 0, fName := [], fV := zGVal, fOwn := ⟨0, 0, 0, 0⟩ } 0 = _ := read_L (hv := [w0, w1, w2, w3, w4, w5, w6, w7, w8, w9]) (wt := patS 1) rfl (by decide) hears_1 11 0 _ rfl (by decide)
    rw [List.drop_zero, List.drop_zero, heard_1] at hL
    rw [if_neg (by simp [patS]), show (((((patS 1).length : Int) : Int) - (0)).toNat + 1) = 11 from rfl, hL, obs]
    have e : okB 1 [w0, w1, w2, w3, w4, w5, w6, w7, w8, w9] = (([110, 101, 119] == w0) && (numOk (w1) && (nameS (w2) && (([98, 121] == w3) && (numOk (w4) && (([105, 110] == w5) && (numOk (w6) && (numOk (w7) && (numOk (w8) && numOk (w9)))))))))) := rfl
    rw [e]
    cases (([110, 101, 119] == w0) && (numOk (w1) && (nameS (w2) && (([98, 121] == w3) && (numOk (w4) && (([105, 110] == w5) && (numOk (w6) && (numOk (w7) && (numOk (w8) && numOk (w9)))))))))) <;> rfl
  · rw [if_pos (by simp only [patS, List.length_cons, List.length_nil, bne_iff_ne, ne_eq]; omega), if_neg (by unfold okB; simp [hl])]
theorem ok_words1 (ws : List (List UInt8)) : okB 1 ws = true ↔ ws = wordsS (candS 1 ws) ∧ (nameS (ws.getD 2 []) = true) := by
  rw [wordsS_1 (by rfl)]
  by_cases hl : ws.length = 10
  · obtain ⟨w0, w1, w2, w3, w4, w5, w6, w7, w8, w9, rfl⟩ := len_10 hl
    show (true && (([110, 101, 119] == w0) && (numOk (w1) && (nameS (w2) && (([98, 121] == w3) && (numOk (w4) && (([105, 110] == w5) && (numOk (w6) && (numOk (w7) && (numOk (w8) && numOk (w9))))))))))) = true ↔ [w0, w1, w2, w3, w4, w5, w6, w7, w8, w9] = [[110, 101, 119], digS (numI w1), w2, [98, 121], digS (numI w4), [105, 110], digS (numI w6), digS (numI w7), digS (numI w8), digS (numI w9)] ∧ nameS w2 = true
    simp only [Bool.true_and, Bool.and_eq_true, beq_iff_eq, numOk, valOk, decide_eq_true_eq]
    constructor
    · rintro ⟨h0, h1, h2, h3, h4, h5, h6, h7, h8, h9⟩
      exact ⟨by simp only [h0, h1, h3, h4, h5, h6, h7, h8, h9], h2⟩
    · rintro ⟨h, hn⟩
      simp only [List.cons.injEq, and_true] at h
      obtain ⟨h0, h1, h2, h3, h4, h5, h6, h7, h8, h9⟩ := h
      exact ⟨h0.symm, h1.symm, hn, h3.symm, h4.symm, h5.symm, h6.symm, h7.symm, h8.symm, h9.symm⟩
  · constructor
    · intro h
      unfold okB at h
      simp [hl] at h
    · intro h
      exact absurd ((congrArg List.length h.1).trans rfl) hl
theorem right_cand1 (ws : List (List UInt8)) : rightS (candS 1 ws) = nameS (ws.getD 2 []) := by
  rw [rightS_1 (by rfl)]
  show (decide _ && _) = _
  rw [decide_eq_true (by rfl)]; rfl
theorem free_1 {e : GEvent} (h : e.fKind = 1) (hn : nameS e.fName = true) {c : UInt8} (hc : c.toNat ≤ 32) (hC : isC c = false) : ∀ w ∈ wordsS e, c ∉ w := by
  rw [wordsS_1 h]
  intro w hw
  simp only [List.mem_cons, List.not_mem_nil, or_false] at hw
  rcases hw with rfl | rfl | rfl | rfl | rfl | rfl | rfl | rfl | rfl | rfl
  · exact lit_free hc (by decide)
  · exact digS_free (by omega)
  · exact nameS_free hC hn
  · exact lit_free hc (by decide)
  · exact digS_free (by omega)
  · exact lit_free hc (by decide)
  · exact digS_free (by omega)
  · exact digS_free (by omega)
  · exact digS_free (by omega)
  · exact digS_free (by omega)
theorem hears_2 : ∀ p ∈ patS 2, ∀ w e, ∃ r, event_hear_w p w e = some r := by
  intro p hp w e
  simp only [patS, List.mem_cons, List.not_mem_nil, or_false] at hp
  rcases hp with rfl | rfl | rfl | rfl | rfl | rfl
  · exact ⟨_, hear_lit (b := 112) (t := [117, 116]) w e (by decide) (by decide) (by decide)⟩
  · exact ⟨_, hear_o w e⟩
  · exact ⟨_, hear_name w e⟩
  · exact ⟨_, hear_lit (b := 98) (t := [121]) w e (by decide) (by decide) (by decide)⟩
  · exact ⟨_, hear_w w e⟩
  · exact ⟨_, hear_val w e⟩
theorem heard_2 (w0 w1 w2 w3 w4 w5 : List UInt8) : hearL (patS 2) [w0, w1, w2, w3, w4, w5] { fKind := 2, fWho := 0, fObj := 0, fName := [], fV := zGVal, fOwn := ⟨0, 0, 0, 0⟩ } = bif (([112, 117, 116] == w0) && (numOk (w1) && (nameS (w2) && (([98, 121] == w3) && (numOk (w4) && valOk (w5)))))) then some ({ fKind := 2, fWho := numI (w4), fObj := numI (w1), fName := w2, fV := valI (w5), fOwn := ⟨0, 0, 0, 0⟩ } : GEvent) else none := by
  simp only [patS, hearL]
  rw [hear_lit (b := 112) (t := [117, 116]) w0 _ (by decide) (by decide) (by decide)]
  simp only
  rw [hear_o w1]
  simp only
  rw [hear_name w2]
  simp only
  rw [hear_lit (b := 98) (t := [121]) w3 _ (by decide) (by decide) (by decide)]
  simp only
  rw [hear_w w4]
  simp only
  rw [hear_val w5]
  simp only
  simp only [bcond]
theorem read_eq2 {s : List UInt8} (hs : s.length ≤ 10000000) : event_read 2 s = some (if okB 2 (spl 32 s) = true then (candS 2 (spl 32 s), true) else (zGEvent, false)) := by
  unfold event_read
  rw [split_one 32 hs, obs, ← Option.bind_assoc, fields2, obs]
  generalize spl 32 s = ws
  by_cases hl : ws.length = 6
  · obtain ⟨w0, w1, w2, w3, w4, w5, rfl⟩ := len_6 hl
    have hL : event_read_L1 [w0, w1, w2, w3, w4, w5] (patS 2) 7 { fKind := 2, fWho := 0, fObj := 0, fName := [], fV := zGVal, fOwn := ⟨0, 0, 0, 0⟩ } 0 = _ := read_L (hv := [w0, w1, w2, w3, w4, w5]) (wt := patS 2) rfl (by decide) hears_2 7 0 _ rfl (by decide)
    rw [List.drop_zero, List.drop_zero, heard_2] at hL
    rw [if_neg (by simp [patS]), show (((((patS 2).length : Int) : Int) - (0)).toNat + 1) = 7 from rfl, hL, obs]
    have e : okB 2 [w0, w1, w2, w3, w4, w5] = (([112, 117, 116] == w0) && (numOk (w1) && (nameS (w2) && (([98, 121] == w3) && (numOk (w4) && valOk (w5)))))) := rfl
    rw [e]
    cases (([112, 117, 116] == w0) && (numOk (w1) && (nameS (w2) && (([98, 121] == w3) && (numOk (w4) && valOk (w5)))))) <;> rfl
  · rw [if_pos (by simp only [patS, List.length_cons, List.length_nil, bne_iff_ne, ne_eq]; omega), if_neg (by unfold okB; simp [hl])]
theorem ok_words2 (ws : List (List UInt8)) : okB 2 ws = true ↔ ws = wordsS (candS 2 ws) ∧ (nameS (ws.getD 2 []) = true) := by
  rw [wordsS_2 (by rfl)]
  by_cases hl : ws.length = 6
  · obtain ⟨w0, w1, w2, w3, w4, w5, rfl⟩ := len_6 hl
    show (true && (([112, 117, 116] == w0) && (numOk (w1) && (nameS (w2) && (([98, 121] == w3) && (numOk (w4) && valOk (w5))))))) = true ↔ [w0, w1, w2, w3, w4, w5] = [[112, 117, 116], digS (numI w1), w2, [98, 121], digS (numI w4), valS (valI w5)] ∧ nameS w2 = true
    simp only [Bool.true_and, Bool.and_eq_true, beq_iff_eq, numOk, valOk, decide_eq_true_eq]
    constructor
    · rintro ⟨h0, h1, h2, h3, h4, h5⟩
      exact ⟨by simp only [h0, h1, h3, h4, h5], h2⟩
    · rintro ⟨h, hn⟩
      simp only [List.cons.injEq, and_true] at h
      obtain ⟨h0, h1, h2, h3, h4, h5⟩ := h
      exact ⟨h0.symm, h1.symm, hn, h3.symm, h4.symm, h5.symm⟩
  · constructor
    · intro h
      unfold okB at h
      simp [hl] at h
    · intro h
      exact absurd ((congrArg List.length h.1).trans rfl) hl
theorem right_cand2 (ws : List (List UInt8)) : rightS (candS 2 ws) = nameS (ws.getD 2 []) := by
  rw [rightS_2 (by rfl)]
  show (decide _ && _) = _
  rw [decide_eq_true (by rfl)]; rfl
theorem free_2 {e : GEvent} (h : e.fKind = 2) (hn : nameS e.fName = true) {c : UInt8} (hc : c.toNat ≤ 32) (hC : isC c = false) : ∀ w ∈ wordsS e, c ∉ w := by
  rw [wordsS_2 h]
  intro w hw
  simp only [List.mem_cons, List.not_mem_nil, or_false] at hw
  rcases hw with rfl | rfl | rfl | rfl | rfl | rfl
  · exact lit_free hc (by decide)
  · exact digS_free (by omega)
  · exact nameS_free hC hn
  · exact lit_free hc (by decide)
  · exact digS_free (by omega)
  · exact valS_free (by omega)
theorem hears_3 : ∀ p ∈ patS 3, ∀ w e, ∃ r, event_hear_w p w e = some r := by
  intro p hp w e
  simp only [patS, List.mem_cons, List.not_mem_nil, or_false] at hp
  rcases hp with rfl | rfl | rfl | rfl | rfl
  · exact ⟨_, hear_lit (b := 99) (t := [97, 108, 108]) w e (by decide) (by decide) (by decide)⟩
  · exact ⟨_, hear_o w e⟩
  · exact ⟨_, hear_name w e⟩
  · exact ⟨_, hear_lit (b := 98) (t := [121]) w e (by decide) (by decide) (by decide)⟩
  · exact ⟨_, hear_w w e⟩
theorem heard_3 (w0 w1 w2 w3 w4 : List UInt8) : hearL (patS 3) [w0, w1, w2, w3, w4] { fKind := 3, fWho := 0, fObj := 0, fName := [], fV := zGVal, fOwn := ⟨0, 0, 0, 0⟩ } = bif (([99, 97, 108, 108] == w0) && (numOk (w1) && (nameS (w2) && (([98, 121] == w3) && numOk (w4))))) then some ({ fKind := 3, fWho := numI (w4), fObj := numI (w1), fName := w2, fV := zGVal, fOwn := ⟨0, 0, 0, 0⟩ } : GEvent) else none := by
  simp only [patS, hearL]
  rw [hear_lit (b := 99) (t := [97, 108, 108]) w0 _ (by decide) (by decide) (by decide)]
  simp only
  rw [hear_o w1]
  simp only
  rw [hear_name w2]
  simp only
  rw [hear_lit (b := 98) (t := [121]) w3 _ (by decide) (by decide) (by decide)]
  simp only
  rw [hear_w w4]
  simp only
  simp only [bcond]
theorem read_eq3 {s : List UInt8} (hs : s.length ≤ 10000000) : event_read 3 s = some (if okB 3 (spl 32 s) = true then (candS 3 (spl 32 s), true) else (zGEvent, false)) := by
  unfold event_read
  rw [split_one 32 hs, obs, ← Option.bind_assoc, fields3, obs]
  generalize spl 32 s = ws
  by_cases hl : ws.length = 5
  · obtain ⟨w0, w1, w2, w3, w4, rfl⟩ := len_5 hl
    have hL : event_read_L1 [w0, w1, w2, w3, w4] (patS 3) 6 { fKind := 3, fWho := 0, fObj := 0, fName := [], fV := zGVal, fOwn := ⟨0, 0, 0, 0⟩ } 0 = _ := read_L (hv := [w0, w1, w2, w3, w4]) (wt := patS 3) rfl (by decide) hears_3 6 0 _ rfl (by decide)
    rw [List.drop_zero, List.drop_zero, heard_3] at hL
    rw [if_neg (by simp [patS]), show (((((patS 3).length : Int) : Int) - (0)).toNat + 1) = 6 from rfl, hL, obs]
    have e : okB 3 [w0, w1, w2, w3, w4] = (([99, 97, 108, 108] == w0) && (numOk (w1) && (nameS (w2) && (([98, 121] == w3) && numOk (w4))))) := rfl
    rw [e]
    cases (([99, 97, 108, 108] == w0) && (numOk (w1) && (nameS (w2) && (([98, 121] == w3) && numOk (w4))))) <;> rfl
  · rw [if_pos (by simp only [patS, List.length_cons, List.length_nil, bne_iff_ne, ne_eq]; omega), if_neg (by unfold okB; simp [hl])]
theorem ok_words3 (ws : List (List UInt8)) : okB 3 ws = true ↔ ws = wordsS (candS 3 ws) ∧ (nameS (ws.getD 2 []) = true) := by
  rw [wordsS_3 (by rfl)]
  by_cases hl : ws.length = 5
  · obtain ⟨w0, w1, w2, w3, w4, rfl⟩ := len_5 hl
    show (true && (([99, 97, 108, 108] == w0) && (numOk (w1) && (nameS (w2) && (([98, 121] == w3) && numOk (w4)))))) = true ↔ [w0, w1, w2, w3, w4] = [[99, 97, 108, 108], digS (numI w1), w2, [98, 121], digS (numI w4)] ∧ nameS w2 = true
    simp only [Bool.true_and, Bool.and_eq_true, beq_iff_eq, numOk, valOk, decide_eq_true_eq]
    constructor
    · rintro ⟨h0, h1, h2, h3, h4⟩
      exact ⟨by simp only [h0, h1, h3, h4], h2⟩
    · rintro ⟨h, hn⟩
      simp only [List.cons.injEq, and_true] at h
      obtain ⟨h0, h1, h2, h3, h4⟩ := h
      exact ⟨h0.symm, h1.symm, hn, h3.symm, h4.symm⟩
  · constructor
    · intro h
      unfold okB at h
      simp [hl] at h
    · intro h
      exact absurd ((congrArg List.length h.1).trans rfl) hl
theorem right_cand3 (ws : List (List UInt8)) : rightS (candS 3 ws) = nameS (ws.getD 2 []) := by
  rw [rightS_3 (by rfl)]
  show (decide _ && _) = _
  rw [decide_eq_true (by rfl)]; rfl
theorem free_3 {e : GEvent} (h : e.fKind = 3) (hn : nameS e.fName = true) {c : UInt8} (hc : c.toNat ≤ 32) (hC : isC c = false) : ∀ w ∈ wordsS e, c ∉ w := by
  rw [wordsS_3 h]
  intro w hw
  simp only [List.mem_cons, List.not_mem_nil, or_false] at hw
  rcases hw with rfl | rfl | rfl | rfl | rfl
  · exact lit_free hc (by decide)
  · exact digS_free (by omega)
  · exact nameS_free hC hn
  · exact lit_free hc (by decide)
  · exact digS_free (by omega)
theorem hears_4 : ∀ p ∈ patS 4, ∀ w e, ∃ r, event_hear_w p w e = some r := by
  intro p hp w e
  simp only [patS, List.mem_cons, List.not_mem_nil, or_false] at hp
  rcases hp with rfl | rfl | rfl
  · exact ⟨_, hear_lit (b := 98) (t := [97, 99, 107]) w e (by decide) (by decide) (by decide)⟩
  · exact ⟨_, hear_w w e⟩
  · exact ⟨_, hear_val w e⟩
theorem heard_4 (w0 w1 w2 : List UInt8) : hearL (patS 4) [w0, w1, w2] { fKind := 4, fWho := 0, fObj := 0, fName := [], fV := zGVal, fOwn := ⟨0, 0, 0, 0⟩ } = bif (([98, 97, 99, 107] == w0) && (numOk (w1) && valOk (w2))) then some ({ fKind := 4, fWho := numI (w1), fObj := 0, fName := [], fV := valI (w2), fOwn := ⟨0, 0, 0, 0⟩ } : GEvent) else none := by
  simp only [patS, hearL]
  rw [hear_lit (b := 98) (t := [97, 99, 107]) w0 _ (by decide) (by decide) (by decide)]
  simp only
  rw [hear_w w1]
  simp only
  rw [hear_val w2]
  simp only
  simp only [bcond]
theorem read_eq4 {s : List UInt8} (hs : s.length ≤ 10000000) : event_read 4 s = some (if okB 4 (spl 32 s) = true then (candS 4 (spl 32 s), true) else (zGEvent, false)) := by
  unfold event_read
  rw [split_one 32 hs, obs, ← Option.bind_assoc, fields4, obs]
  generalize spl 32 s = ws
  by_cases hl : ws.length = 3
  · obtain ⟨w0, w1, w2, rfl⟩ := len_3 hl
    have hL : event_read_L1 [w0, w1, w2] (patS 4) 4 { fKind := 4, fWho := 0, fObj := 0, fName := [], fV := zGVal, fOwn := ⟨0, 0, 0, 0⟩ } 0 = _ := read_L (hv := [w0, w1, w2]) (wt := patS 4) rfl (by decide) hears_4 4 0 _ rfl (by decide)
    rw [List.drop_zero, List.drop_zero, heard_4] at hL
    rw [if_neg (by simp [patS]), show (((((patS 4).length : Int) : Int) - (0)).toNat + 1) = 4 from rfl, hL, obs]
    have e : okB 4 [w0, w1, w2] = (([98, 97, 99, 107] == w0) && (numOk (w1) && valOk (w2))) := rfl
    rw [e]
    cases (([98, 97, 99, 107] == w0) && (numOk (w1) && valOk (w2))) <;> rfl
  · rw [if_pos (by simp only [patS, List.length_cons, List.length_nil, bne_iff_ne, ne_eq]; omega), if_neg (by unfold okB; simp [hl])]
theorem ok_words4 (ws : List (List UInt8)) : okB 4 ws = true ↔ ws = wordsS (candS 4 ws) := by
  rw [wordsS_4 (by rfl)]
  by_cases hl : ws.length = 3
  · obtain ⟨w0, w1, w2, rfl⟩ := len_3 hl
    show (true && (([98, 97, 99, 107] == w0) && (numOk (w1) && valOk (w2)))) = true ↔ [w0, w1, w2] = [[98, 97, 99, 107], digS (numI w1), valS (valI w2)]
    simp only [Bool.true_and, Bool.and_eq_true, beq_iff_eq, numOk, valOk, decide_eq_true_eq]
    constructor
    · rintro ⟨h0, h1, h2⟩
      exact by simp only [h0, h1, h2]
    · rintro h
      simp only [List.cons.injEq, and_true] at h
      obtain ⟨h0, h1, h2⟩ := h
      exact ⟨h0.symm, h1.symm, h2.symm⟩
  · constructor
    · intro h
      unfold okB at h
      simp [hl] at h
    · intro h
      exact absurd ((congrArg List.length h).trans rfl) hl
theorem right_cand4 (ws : List (List UInt8)) : rightS (candS 4 ws) = true := by
  rw [rightS_4 (by rfl)]
  exact decide_eq_true (by rfl)
theorem free_4 {e : GEvent} (h : e.fKind = 4) {c : UInt8} (hc : c.toNat ≤ 32) (hC : isC c = false) : ∀ w ∈ wordsS e, c ∉ w := by
  rw [wordsS_4 h]
  intro w hw
  simp only [List.mem_cons, List.not_mem_nil, or_false] at hw
  rcases hw with rfl | rfl | rfl
  · exact lit_free hc (by decide)
  · exact digS_free (by omega)
  · exact valS_free (by omega)
theorem hears_5 : ∀ p ∈ patS 5, ∀ w e, ∃ r, event_hear_w p w e = some r := by
  intro p hp w e
  simp only [patS, List.mem_cons, List.not_mem_nil, or_false] at hp
  rcases hp with rfl | rfl | rfl | rfl | rfl | rfl
  · exact ⟨_, hear_lit (b := 109) (t := [111, 118, 101]) w e (by decide) (by decide) (by decide)⟩
  · exact ⟨_, hear_o w e⟩
  · exact ⟨_, hear_lit (b := 116) (t := [111]) w e (by decide) (by decide) (by decide)⟩
  · exact ⟨_, hear_0 w e⟩
  · exact ⟨_, hear_lit (b := 98) (t := [121]) w e (by decide) (by decide) (by decide)⟩
  · exact ⟨_, hear_w w e⟩
theorem heard_5 (w0 w1 w2 w3 w4 w5 : List UInt8) : hearL (patS 5) [w0, w1, w2, w3, w4, w5] { fKind := 5, fWho := 0, fObj := 0, fName := [], fV := zGVal, fOwn := ⟨0, 0, 0, 0⟩ } = bif (([109, 111, 118, 101] == w0) && (numOk (w1) && (([116, 111] == w2) && (numOk (w3) && (([98, 121] == w4) && numOk (w5)))))) then some ({ fKind := 5, fWho := numI (w5), fObj := numI (w1), fName := [], fV := zGVal, fOwn := ⟨numI (w3), 0, 0, 0⟩ } : GEvent) else none := by
  simp only [patS, hearL]
  rw [hear_lit (b := 109) (t := [111, 118, 101]) w0 _ (by decide) (by decide) (by decide)]
  simp only
  rw [hear_o w1]
  simp only
  rw [hear_lit (b := 116) (t := [111]) w2 _ (by decide) (by decide) (by decide)]
  simp only
  rw [hear_0 w3]
  simp only
  rw [hear_lit (b := 98) (t := [121]) w4 _ (by decide) (by decide) (by decide)]
  simp only
  rw [hear_w w5]
  simp only
  simp only [bcond]
theorem read_eq5 {s : List UInt8} (hs : s.length ≤ 10000000) : event_read 5 s = some (if okB 5 (spl 32 s) = true then (candS 5 (spl 32 s), true) else (zGEvent, false)) := by
  unfold event_read
  rw [split_one 32 hs, obs, ← Option.bind_assoc, fields5, obs]
  generalize spl 32 s = ws
  by_cases hl : ws.length = 6
  · obtain ⟨w0, w1, w2, w3, w4, w5, rfl⟩ := len_6 hl
    have hL : event_read_L1 [w0, w1, w2, w3, w4, w5] (patS 5) 7 { fKind := 5, fWho := 0, fObj := 0, fName := [], fV := zGVal, fOwn := ⟨0, 0, 0, 0⟩ } 0 = _ := read_L (hv := [w0, w1, w2, w3, w4, w5]) (wt := patS 5) rfl (by decide) hears_5 7 0 _ rfl (by decide)
    rw [List.drop_zero, List.drop_zero, heard_5] at hL
    rw [if_neg (by simp [patS]), show (((((patS 5).length : Int) : Int) - (0)).toNat + 1) = 7 from rfl, hL, obs]
    have e : okB 5 [w0, w1, w2, w3, w4, w5] = (([109, 111, 118, 101] == w0) && (numOk (w1) && (([116, 111] == w2) && (numOk (w3) && (([98, 121] == w4) && numOk (w5)))))) := rfl
    rw [e]
    cases (([109, 111, 118, 101] == w0) && (numOk (w1) && (([116, 111] == w2) && (numOk (w3) && (([98, 121] == w4) && numOk (w5)))))) <;> rfl
  · rw [if_pos (by simp only [patS, List.length_cons, List.length_nil, bne_iff_ne, ne_eq]; omega), if_neg (by unfold okB; simp [hl])]
theorem ok_words5 (ws : List (List UInt8)) : okB 5 ws = true ↔ ws = wordsS (candS 5 ws) := by
  rw [wordsS_5 (by rfl)]
  by_cases hl : ws.length = 6
  · obtain ⟨w0, w1, w2, w3, w4, w5, rfl⟩ := len_6 hl
    show (true && (([109, 111, 118, 101] == w0) && (numOk (w1) && (([116, 111] == w2) && (numOk (w3) && (([98, 121] == w4) && numOk (w5))))))) = true ↔ [w0, w1, w2, w3, w4, w5] = [[109, 111, 118, 101], digS (numI w1), [116, 111], digS (numI w3), [98, 121], digS (numI w5)]
    simp only [Bool.true_and, Bool.and_eq_true, beq_iff_eq, numOk, valOk, decide_eq_true_eq]
    constructor
    · rintro ⟨h0, h1, h2, h3, h4, h5⟩
      exact by simp only [h0, h1, h2, h3, h4, h5]
    · rintro h
      simp only [List.cons.injEq, and_true] at h
      obtain ⟨h0, h1, h2, h3, h4, h5⟩ := h
      exact ⟨h0.symm, h1.symm, h2.symm, h3.symm, h4.symm, h5.symm⟩
  · constructor
    · intro h
      unfold okB at h
      simp [hl] at h
    · intro h
      exact absurd ((congrArg List.length h).trans rfl) hl
theorem right_cand5 (ws : List (List UInt8)) : rightS (candS 5 ws) = true := by
  rw [rightS_5 (by rfl)]
  exact decide_eq_true (by rfl)
theorem free_5 {e : GEvent} (h : e.fKind = 5) {c : UInt8} (hc : c.toNat ≤ 32) (hC : isC c = false) : ∀ w ∈ wordsS e, c ∉ w := by
  rw [wordsS_5 h]
  intro w hw
  simp only [List.mem_cons, List.not_mem_nil, or_false] at hw
  rcases hw with rfl | rfl | rfl | rfl | rfl | rfl
  · exact lit_free hc (by decide)
  · exact digS_free (by omega)
  · exact lit_free hc (by decide)
  · exact digS_free (by omega)
  · exact lit_free hc (by decide)
  · exact digS_free (by omega)
theorem hears_6 : ∀ p ∈ patS 6, ∀ w e, ∃ r, event_hear_w p w e = some r := by
  intro p hp w e
  simp only [patS, List.mem_cons, List.not_mem_nil, or_false] at hp
  rcases hp with rfl | rfl | rfl | rfl
  · exact ⟨_, hear_lit (b := 100) (t := [101, 108, 101, 116, 101]) w e (by decide) (by decide) (by decide)⟩
  · exact ⟨_, hear_o w e⟩
  · exact ⟨_, hear_lit (b := 98) (t := [121]) w e (by decide) (by decide) (by decide)⟩
  · exact ⟨_, hear_w w e⟩
theorem heard_6 (w0 w1 w2 w3 : List UInt8) : hearL (patS 6) [w0, w1, w2, w3] { fKind := 6, fWho := 0, fObj := 0, fName := [], fV := zGVal, fOwn := ⟨0, 0, 0, 0⟩ } = bif (([100, 101, 108, 101, 116, 101] == w0) && (numOk (w1) && (([98, 121] == w2) && numOk (w3)))) then some ({ fKind := 6, fWho := numI (w3), fObj := numI (w1), fName := [], fV := zGVal, fOwn := ⟨0, 0, 0, 0⟩ } : GEvent) else none := by
  simp only [patS, hearL]
  rw [hear_lit (b := 100) (t := [101, 108, 101, 116, 101]) w0 _ (by decide) (by decide) (by decide)]
  simp only
  rw [hear_o w1]
  simp only
  rw [hear_lit (b := 98) (t := [121]) w2 _ (by decide) (by decide) (by decide)]
  simp only
  rw [hear_w w3]
  simp only
  simp only [bcond]
theorem read_eq6 {s : List UInt8} (hs : s.length ≤ 10000000) : event_read 6 s = some (if okB 6 (spl 32 s) = true then (candS 6 (spl 32 s), true) else (zGEvent, false)) := by
  unfold event_read
  rw [split_one 32 hs, obs, ← Option.bind_assoc, fields6, obs]
  generalize spl 32 s = ws
  by_cases hl : ws.length = 4
  · obtain ⟨w0, w1, w2, w3, rfl⟩ := len_4 hl
    have hL : event_read_L1 [w0, w1, w2, w3] (patS 6) 5 { fKind := 6, fWho := 0, fObj := 0, fName := [], fV := zGVal, fOwn := ⟨0, 0, 0, 0⟩ } 0 = _ := read_L (hv := [w0, w1, w2, w3]) (wt := patS 6) rfl (by decide) hears_6 5 0 _ rfl (by decide)
    rw [List.drop_zero, List.drop_zero, heard_6] at hL
    rw [if_neg (by simp [patS]), show (((((patS 6).length : Int) : Int) - (0)).toNat + 1) = 5 from rfl, hL, obs]
    have e : okB 6 [w0, w1, w2, w3] = (([100, 101, 108, 101, 116, 101] == w0) && (numOk (w1) && (([98, 121] == w2) && numOk (w3)))) := rfl
    rw [e]
    cases (([100, 101, 108, 101, 116, 101] == w0) && (numOk (w1) && (([98, 121] == w2) && numOk (w3)))) <;> rfl
  · rw [if_pos (by simp only [patS, List.length_cons, List.length_nil, bne_iff_ne, ne_eq]; omega), if_neg (by unfold okB; simp [hl])]
theorem ok_words6 (ws : List (List UInt8)) : okB 6 ws = true ↔ ws = wordsS (candS 6 ws) := by
  rw [wordsS_6 (by rfl)]
  by_cases hl : ws.length = 4
  · obtain ⟨w0, w1, w2, w3, rfl⟩ := len_4 hl
    show (true && (([100, 101, 108, 101, 116, 101] == w0) && (numOk (w1) && (([98, 121] == w2) && numOk (w3))))) = true ↔ [w0, w1, w2, w3] = [[100, 101, 108, 101, 116, 101], digS (numI w1), [98, 121], digS (numI w3)]
    simp only [Bool.true_and, Bool.and_eq_true, beq_iff_eq, numOk, valOk, decide_eq_true_eq]
    constructor
    · rintro ⟨h0, h1, h2, h3⟩
      exact by simp only [h0, h1, h2, h3]
    · rintro h
      simp only [List.cons.injEq, and_true] at h
      obtain ⟨h0, h1, h2, h3⟩ := h
      exact ⟨h0.symm, h1.symm, h2.symm, h3.symm⟩
  · constructor
    · intro h
      unfold okB at h
      simp [hl] at h
    · intro h
      exact absurd ((congrArg List.length h).trans rfl) hl
theorem right_cand6 (ws : List (List UInt8)) : rightS (candS 6 ws) = true := by
  rw [rightS_6 (by rfl)]
  exact decide_eq_true (by rfl)
theorem free_6 {e : GEvent} (h : e.fKind = 6) {c : UInt8} (hc : c.toNat ≤ 32) (hC : isC c = false) : ∀ w ∈ wordsS e, c ∉ w := by
  rw [wordsS_6 h]
  intro w hw
  simp only [List.mem_cons, List.not_mem_nil, or_false] at hw
  rcases hw with rfl | rfl | rfl | rfl
  · exact lit_free hc (by decide)
  · exact digS_free (by omega)
  · exact lit_free hc (by decide)
  · exact digS_free (by omega)

/-! ### What the document's functions on events compute (printed by gen_evread.py). -/
def e64 (a : Int) : Prop := -9223372036854775808 ≤ a ∧ a ≤ 9223372036854775807
def evIn (e : GEvent) : Prop := e64 e.fWho ∧ e64 e.fObj ∧ e64 e.fV.fN ∧ e64 e.fOwn.a0 ∧ e64 e.fOwn.a1 ∧ e64 e.fOwn.a2 ∧ e64 e.fOwn.a3 ∧ e.fName.length ≤ 1000
theorem digS_len (a : Int) : (digS a).length ≤ 30 := by
  unfold digS
  have := rst_len 21 a.natAbs
  rw [List.length_append, List.length_append, strL_len, strL_len, List.length_reverse]
  split <;> simp <;> omega
theorem valS_len (v : GVal) : (valS v).length ≤ 31 := by
  unfold valS
  have := digS_len v.fN
  split
  · simp; omega
  · omega
theorem room_1 {n : Int} (h : n ≤ 1000000) : room n 1 = some () := by unfold room; rw [if_pos (by omega)]
def tx (e : GEvent) : List UInt8 := if rightS e = true then jn 32 (wordsS e) else []
def hitC (s : List UInt8) (c : GEvent) : Bool := !(s == []) && (tx c == s)
def readS (s : List UInt8) : GEvent × Bool :=
  if hitC s (candS 1 (spl 32 s)) = true then (candS 1 (spl 32 s), true) else if hitC s (candS 2 (spl 32 s)) = true then (candS 2 (spl 32 s), true) else if hitC s (candS 3 (spl 32 s)) = true then (candS 3 (spl 32 s), true)
  else if hitC s (candS 4 (spl 32 s)) = true then (candS 4 (spl 32 s), true) else if hitC s (candS 5 (spl 32 s)) = true then (candS 5 (spl 32 s), true) else if hitC s (candS 6 (spl 32 s)) = true then (candS 6 (spl 32 s), true) else (zGEvent, false)
theorem numI_64 (w : List UInt8) : e64 (numI w) := by have := numI_range w; exact ⟨by omega, by omega⟩
theorem valI_64 (w : List UInt8) : e64 (valI w).fN := by
  cases w with
  | nil => exact ⟨by decide, by decide⟩
  | cons b t =>
    rw [valI_cons]
    split
    · show e64 (numI t); exact numI_64 t
    · show e64 (numI (b :: t)); exact numI_64 _
theorem zero_64 : e64 0 := ⟨by decide, by decide⟩
theorem spl_word_len (c : UInt8) : ∀ (s : List UInt8), ∀ w ∈ spl c s, w.length ≤ s.length
  | [], w, h => by simp [spl] at h; subst h; simp
  | b :: t, w, h => by
    by_cases hb : b = c
    · subst hb
      rw [spl_cons_eq] at h
      rcases List.mem_cons.1 h with rfl | h
      · simp
      · have := spl_word_len b t w h; simp; omega
    · obtain ⟨v, ws, e1, e2⟩ := spl_cons_ne (t := t) hb
      rw [e2] at h
      rcases List.mem_cons.1 h with rfl | h
      · have := spl_word_len c t v (by rw [e1]; simp); simp; omega
      · have := spl_word_len c t w (by rw [e1]; simp [h]); simp; omega
theorem getD_len (c : UInt8) {s : List UInt8} (hs : s.length ≤ 1000) (i : Nat) : ((spl c s).getD i []).length ≤ 1000 := by
  by_cases h : i < (spl c s).length
  · have := spl_word_len c s _ (List.getElem_mem h)
    simp only [List.getD, List.getElem?_eq_getElem h, Option.getD_some]; omega
  · simp [List.getD, List.getElem?_eq_none (Nat.le_of_not_lt h)]
theorem cand_in1 {s : List UInt8} (hs : s.length ≤ 1000) : evIn (candS 1 (spl 32 s)) := ⟨numI_64 _, numI_64 _, zero_64, numI_64 _, numI_64 _, numI_64 _, numI_64 _, getD_len 32 hs 2⟩
theorem cand_in2 {s : List UInt8} (hs : s.length ≤ 1000) : evIn (candS 2 (spl 32 s)) := ⟨numI_64 _, numI_64 _, valI_64 _, zero_64, zero_64, zero_64, zero_64, getD_len 32 hs 2⟩
theorem cand_in3 {s : List UInt8} (hs : s.length ≤ 1000) : evIn (candS 3 (spl 32 s)) := ⟨numI_64 _, numI_64 _, zero_64, zero_64, zero_64, zero_64, zero_64, getD_len 32 hs 2⟩
theorem cand_in4 {s : List UInt8} (hs : s.length ≤ 1000) : evIn (candS 4 (spl 32 s)) := ⟨numI_64 _, zero_64, valI_64 _, zero_64, zero_64, zero_64, zero_64, Nat.zero_le _⟩
theorem cand_in5 {s : List UInt8} (hs : s.length ≤ 1000) : evIn (candS 5 (spl 32 s)) := ⟨numI_64 _, numI_64 _, zero_64, numI_64 _, zero_64, zero_64, zero_64, Nat.zero_le _⟩
theorem cand_in6 {s : List UInt8} (hs : s.length ≤ 1000) : evIn (candS 6 (spl 32 s)) := ⟨numI_64 _, numI_64 _, zero_64, zero_64, zero_64, zero_64, zero_64, Nat.zero_le _⟩
/-! ### The program reads what the document reads. -/
theorem ok_hit {k : Nat} {s : List UInt8} {c : GEvent} {N : Prop} (hw : okB k (spl 32 s) = true ↔ spl 32 s = wordsS c ∧ N) (hN : rightS c = true ↔ N) (hfree : N → ∀ w ∈ wordsS c, (32 : UInt8) ∉ w) (hlen : 2 ≤ (wordsS c).length) :
    okB k (spl 32 s) = hitC s c := by
  rw [Bool.eq_iff_iff, hw]
  unfold hitC tx
  rw [Bool.and_eq_true, beq_iff_eq]
  constructor
  · rintro ⟨e, n⟩
    rw [if_pos (hN.2 n), ← e, jn_spl]
    refine ⟨?_, rfl⟩
    cases s with
    | nil => rw [← e] at hlen; simp [spl] at hlen
    | cons b t => rfl
  · rintro ⟨h0, h⟩
    by_cases hR : rightS c = true
    · rw [if_pos hR] at h
      have n := hN.1 hR
      refine ⟨?_, n⟩
      rw [← h]
      exact spl_jn 32 (by intro e; rw [e] at hlen; simp at hlen) (hfree n)
    · rw [if_neg hR] at h
      subst h
      cases h0
theorem ok_hit1 (s : List UInt8) : okB 1 (spl 32 s) = hitC s (candS 1 (spl 32 s)) := ok_hit (ok_words1 _) (by rw [right_cand1]) (fun n => free_1 rfl n (by decide) isC_32) (by rw [wordsS_1 (by rfl)]; simp)
theorem ok_hit2 (s : List UInt8) : okB 2 (spl 32 s) = hitC s (candS 2 (spl 32 s)) := ok_hit (ok_words2 _) (by rw [right_cand2]) (fun n => free_2 rfl n (by decide) isC_32) (by rw [wordsS_2 (by rfl)]; simp)
theorem ok_hit3 (s : List UInt8) : okB 3 (spl 32 s) = hitC s (candS 3 (spl 32 s)) := ok_hit (ok_words3 _) (by rw [right_cand3]) (fun n => free_3 rfl n (by decide) isC_32) (by rw [wordsS_3 (by rfl)]; simp)
theorem ok_hit4 (s : List UInt8) : okB 4 (spl 32 s) = hitC s (candS 4 (spl 32 s)) := ok_hit (N := True) (by rw [and_true]; exact ok_words4 _) (by rw [right_cand4]; simp) (fun _ => free_4 rfl (by decide) isC_32) (by rw [wordsS_4 (by rfl)]; simp)
theorem ok_hit5 (s : List UInt8) : okB 5 (spl 32 s) = hitC s (candS 5 (spl 32 s)) := ok_hit (N := True) (by rw [and_true]; exact ok_words5 _) (by rw [right_cand5]; simp) (fun _ => free_5 rfl (by decide) isC_32) (by rw [wordsS_5 (by rfl)]; simp)
theorem ok_hit6 (s : List UInt8) : okB 6 (spl 32 s) = hitC s (candS 6 (spl 32 s)) := ok_hit (N := True) (by rw [and_true]; exact ok_words6 _) (by rw [right_cand6]; simp) (fun _ => free_6 rfl (by decide) isC_32) (by rw [wordsS_6 (by rfl)]; simp)
theorem eRead_step {s : List UInt8} (n : Nat) {k k' : Int} {b : Bool} {c : GEvent} (hk : k ≤ 6) (hw : w_i64 (k + 1) = k') (h : event_read k s = some (if b = true then (c, true) else (zGEvent, false))) :
    event_Read_L1 s (n + 1) k = if b = true then some (.stop (c, true)) else event_Read_L1 s n k' := by
  conv => lhs; unfold event_Read_L1
  rw [if_pos (by simpa using hk), h, obs, hw]
  cases b <;> rfl
theorem event_Read_eq {s : List UInt8} (hs : s.length ≤ 10000000) : event_Read s = some (readS s) := by
  unfold event_Read readS
  rw [← ok_hit1, ← ok_hit2, ← ok_hit3, ← ok_hit4, ← ok_hit5, ← ok_hit6]
  rw [eRead_step 7 (by decide) (show w_i64 (1 + 1) = 2 by decide) (read_eq1 hs), eRead_step 6 (by decide) (show w_i64 (2 + 1) = 3 by decide) (read_eq2 hs), eRead_step 5 (by decide) (show w_i64 (3 + 1) = 4 by decide) (read_eq3 hs),
    eRead_step 4 (by decide) (show w_i64 (4 + 1) = 5 by decide) (read_eq4 hs), eRead_step 3 (by decide) (show w_i64 (5 + 1) = 6 by decide) (read_eq5 hs), eRead_step 2 (by decide) (show w_i64 (6 + 1) = 7 by decide) (read_eq6 hs)]
  have he : event_Read_L1 s 2 7 = some (.next ()) := rfl
  rw [he]
  cases okB 1 (spl 32 s) <;> cases okB 2 (spl 32 s) <;> cases okB 3 (spl 32 s) <;> cases okB 4 (spl 32 s) <;> cases okB 5 (spl 32 s) <;> cases okB 6 (spl 32 s) <;> rfl
/-! ### Lines. -/
def linC : List (List UInt8) → List GEvent → Ctl (List GEvent × Int) (List GEvent)
  | [], acc => .next acc
  | [p], acc => if p = [] then .next acc else .stop ([], (acc.length : Int))
  | p :: q :: ps, acc => if (readS p).2 = true then linC (q :: ps) (acc ++ [(readS p).1]) else .stop ([], (acc.length : Int))
theorem linC_cons (p : List UInt8) {l : List (List UInt8)} (h : l ≠ []) (acc : List GEvent) : linC (p :: l) acc = if (readS p).2 = true then linC l (acc ++ [(readS p).1]) else .stop ([], (acc.length : Int)) := by
  cases l with
  | nil => exact absurd rfl h
  | cons q ps => rfl
theorem room_88 {n : Int} (h : n ≤ 10000000) : room n 88 = some () := by unfold room; rw [if_pos (by omega)]
theorem eLines_L : ∀ (f : Nat) (s : List UInt8) (acc : List GEvent), acc.length + s.length ≤ 10000000 → s.length + 1 ≤ f → event_Lines_L1 f s acc = some (linC (spl 10 s) acc)
  | 0, s, acc, _, h => by omega
  | f + 1, s, acc, hl, hf => by
    unfold event_Lines_L1
    by_cases h0 : s = []
    · subst h0; rfl
    · rw [if_pos (by simpa using h0)]
      by_cases hm : (10 : UInt8) ∈ s
      · obtain ⟨w, t, e, hw⟩ := first_occ hm
        have hlen : s.length = w.length + 1 + t.length := by rw [e]; simp; omega
        rw [e, cut_app hw (by rw [← e]; omega), obs, event_Read_eq (s := w) (by omega), obs, spl_app hw, linC_cons _ (spl_ne _ _)]
        cases hr : (readS w).2 with
        | false => rfl
        | true =>
          rw [if_neg (by simp)]
          show Option.bind (some false) _ = _
          rw [obs, if_neg (by simp), room_88 (by simp; omega), obs, eLines_L f t _ (by simp; omega) (by omega)]; rfl
      · rw [cut_none hm, obs, event_Read_eq (s := s) (by omega), obs, spl_none hm]
        cases (readS s).2 with
        | false => simp [linC, h0]
        | true => simp [linC, h0]
theorem eLines_1 {s : List UInt8} (hs : s.length ≤ 10000000) : event_Lines_L1 (s.length + 1) s [] = some (linC (spl 10 s) []) := eLines_L (s.length + 1) s [] (by rw [List.length_nil, Nat.zero_add]; exact hs) (by omega)
theorem ctl_end (R : Ctl (List GEvent × Int) (List GEvent)) : (Option.bind (some R) fun lr62 => Ctl.elim lr62 (fun v => some v) fun x61 => some (x61, (-1))) = some (Ctl.elim R id fun x => (x, -1)) := by
  cases R <;> rfl
theorem event_Lines_eq {s : List UInt8} (hs : s.length ≤ 10000000) : event_Lines s = some (Ctl.elim (linC (spl 10 s) []) id fun x => (x, -1)) :=
  (event_Lines.eq_1 s).trans ((congrArg (fun z => Option.bind z fun lr62 => Ctl.elim lr62 (fun v => some v) fun x61 => some (x61, (-1))) (eLines_1 hs)).trans (ctl_end _))
theorem ob_some {α R S : Type} (a : α) (f : α → Ctl (Option R) S) : obind (some a) f = f a := rfl
theorem go_nx {R S : Type} (x : S) (k : S → Option R) : Ctl.go (.next x) k = k x := rfl
theorem go_st {R S : Type} (a : Option R) (k : S → Option R) : Ctl.go (.stop a) k = a := rfl
theorem same_self : ∀ (l : List GEvent), l.length ≤ 1000000 → law42_same l l = some true := by
  intro l hl
  unfold law42_same
  rw [if_neg (by simp)]
  have key : ∀ (n k : Nat), n + k = l.length + 1 → k ≤ l.length → law42_same_L1 l l n (k : Int) = some (.next ()) := by
    intro n
    induction n with
    | zero => intro k h hk; omega
    | succ n ih =>
      intro k h hk
      unfold law42_same_L1
      by_cases hlt : k < l.length
      · rw [if_pos (by rw [decide_eq_true_eq]; omega), idx_lt hlt, obs, obs, bG_self, if_neg (by simp), w64_succ hlt (by omega)]
        exact ih (k + 1) (by omega) (by omega)
      · rw [if_neg (by rw [decide_eq_true_eq]; omega)]
  rw [show ((((l.length : Int) : Int) - (0)).toNat + 1) = l.length + 1 by omega]
  have := key (l.length + 1) 0 (by omega) (by omega)
  rw [show ((0 : Nat) : Int) = 0 from rfl] at this
  rw [this, obs]; rfl
/-! ### What the program's functions that write events compute (printed by gen_evtext.py). -/
def rstep (p : List UInt8) (a0 x44 : GEvent) : Ctl (Option (Ctl Bool GEvent)) GEvent :=
  obind (idx p 0) fun (y85 : UInt8) =>
  if ((y85.toNat : Int) == 35) = true then
    obind (idx p 1) fun (y88 : UInt8) =>
    obind (event_slot_w (y88.toNat : Int) x44) fun (y90 : Nat) =>
    obind (idx p 1) fun (y92 : UInt8) =>
    obind (event_slot_w (y92.toNat : Int) a0) fun (y94 : Nat) =>
    obind (getc_27 a0 y94) fun (y97 : Int) =>
    obind (setc_27 x44 y90 y97) fun (y99 : GEvent) =>
    .next y99
  else
    if ((y85.toNat : Int) == 36) = true then
      obind (word_Name a0.fName) fun (y103 : Bool) =>
      if (!y103) = true then
        .stop (some (.stop false))
      else
        .next ({ x44 with fName := a0.fName } : GEvent)
    else
      if ((y85.toNat : Int) == 64) = true then
        .next ({ x44 with fV := a0.fV } : GEvent)
      else
        .next x44
theorem rs_o (e x : GEvent) : rstep [35, 111] e x = .next { x with fObj := e.fObj } := rfl
theorem rs_w (e x : GEvent) : rstep [35, 119] e x = .next { x with fWho := e.fWho } := rfl
theorem rs_0 (e x : GEvent) : rstep [35, 48] e x = .next { x with fOwn := { x.fOwn with a0 := e.fOwn.a0 } } := rfl
theorem rs_1 (e x : GEvent) : rstep [35, 49] e x = .next { x with fOwn := { x.fOwn with a1 := e.fOwn.a1 } } := rfl
theorem rs_2 (e x : GEvent) : rstep [35, 50] e x = .next { x with fOwn := { x.fOwn with a2 := e.fOwn.a2 } } := rfl
theorem rs_3 (e x : GEvent) : rstep [35, 51] e x = .next { x with fOwn := { x.fOwn with a3 := e.fOwn.a3 } } := rfl
theorem rs_val (e x : GEvent) : rstep [64] e x = .next { x with fV := e.fV } := rfl
theorem rs_name (e x : GEvent) : rstep [36] e x = bif nameS e.fName then .next { x with fName := e.fName } else .stop (some (.stop false)) := by
  unfold rstep
  rw [show idx ([36] : List UInt8) 0 = some 36 from rfl, ob_some, if_neg (by decide), if_pos (by decide), word_Name_eq, ob_some]
  cases nameS e.fName <;> rfl
theorem rs_lit {b : UInt8} {t : List UInt8} (e x : GEvent) (h1 : b ≠ 35) (h2 : b ≠ 36) (h3 : b ≠ 64) : rstep (b :: t) e x = .next x := by
  have key : ∀ c : UInt8, b ≠ c → ¬ (((b.toNat : Int) == (c.toNat : Int)) = true) := by
    intro c hc h
    apply hc
    have : b.toNat = c.toNat := by have := beq_iff_eq.1 h; omega
    exact UInt8.toNat_inj.1 this
  unfold rstep
  rw [show idx (b :: t) 0 = some b from rfl, ob_some, if_neg (show ¬ (((b.toNat : Int) == 35) = true) from key 35 h1), if_neg (show ¬ (((b.toNat : Int) == 36) = true) from key 36 h2), if_neg (show ¬ (((b.toNat : Int) == 64) = true) from key 64 h3)]
def rightL (e : GEvent) : List (List UInt8) → GEvent → Option GEvent
  | [], x => some x
  | p :: ps, x => match rstep p e x with
    | .next x' => rightL e ps x'
    | .stop _ => none
theorem right_L {e : GEvent} {wt : List (List UInt8)} (hs : wt.length ≤ 1000) (hok : ∀ p ∈ wt, ∀ x, (∃ x', rstep p e x = .next x') ∨ rstep p e x = .stop (some (.stop false))) :
    ∀ (n k : Nat) (x : GEvent), n + k = wt.length + 1 → k ≤ wt.length → event_Right_L1 e wt n x (k : Int) = some (match rightL e (wt.drop k) x with | some x' => .next x' | none => .stop false)
  | 0, k, x, h, hk => by omega
  | n + 1, k, x, h, hk => by
    unfold event_Right_L1
    by_cases hlt : k < wt.length
    · rw [if_pos (by rw [decide_eq_true_eq]; omega), idx_lt hlt, ob_some, w64_succ hlt (by omega), List.drop_eq_getElem_cons hlt]
      show Ctl.go (rstep wt[k] e x) _ = _
      rcases hok wt[k] (List.getElem_mem hlt) x with ⟨x', h1⟩ | h1
      · simp only [rightL]
        rw [h1, go_nx, right_L hs hok n (k + 1) x' (by omega) (by omega)]
      · simp only [rightL]
        rw [h1, go_st]
    · rw [if_neg (by rw [decide_eq_true_eq]; omega), List.drop_of_length_le (by omega)]
      rfl
theorem sp_num {e : GEvent} {a : Int} (h : e64 a) {m : UInt8} {k : Nat} (h1 : event_slot_w (m.toNat : Int) e = some k) (h2 : getc_27 e k = some a) : event_spell e [35, m] = some (digS a) := by
  unfold event_spell
  rw [show idx [35, m] 0 = some 35 from rfl, obs, if_pos (by decide), show idx [35, m] 1 = some m from rfl, obs, h1, obs, h2, obs, word_Digits_eq h.1 h.2, obs]
theorem sp_name (e : GEvent) : event_spell e [36] = some e.fName := rfl
theorem sp_val {e : GEvent} (h : e64 e.fV.fN) : event_spell e [64] = some (valS e.fV) := by
  have := digS_len e.fV.fN
  unfold event_spell valS
  rw [show idx ([64] : List UInt8) 0 = some 64 from rfl, obs, if_neg (by decide), if_neg (by decide), if_pos (by decide), word_Digits_eq h.1 h.2, obs, obs]
  split
  · rw [room_1 (by simp; omega), obs]; rfl
  · rfl
theorem sp_lit {b : UInt8} {t : List UInt8} (e : GEvent) (h1 : b ≠ 35) (h2 : b ≠ 36) (h3 : b ≠ 64) : event_spell e (b :: t) = some (b :: t) := by
  have key : ∀ c : UInt8, b ≠ c → ¬ (((b.toNat : Int) == (c.toNat : Int)) = true) := by
    intro c hc h
    apply hc
    have : b.toNat = c.toNat := by have := beq_iff_eq.1 h; omega
    exact UInt8.toNat_inj.1 this
  unfold event_spell
  rw [show idx (b :: t) 0 = some b from rfl, obs, if_neg (show ¬ (((b.toNat : Int) == 35) = true) from key 35 h1), if_neg (show ¬ (((b.toNat : Int) == 36) = true) from key 36 h2), if_neg (show ¬ (((b.toNat : Int) == 64) = true) from key 64 h3)]
theorem write_L {e : GEvent} {wt ws : List (List UInt8)} (hs : wt.length ≤ 1000) (hl : wt.length = ws.length) (hok : ∀ (i : Nat) (h : i < wt.length) (h' : i < ws.length), event_spell e wt[i] = some ws[i]) :
    ∀ (n k : Nat), n + k = wt.length + 1 → k ≤ wt.length → event_write_L1 e wt n (ws.take k) (k : Int) = some ws
  | 0, k, h, hk => by omega
  | n + 1, k, h, hk => by
    unfold event_write_L1
    by_cases hlt : k < wt.length
    · have hlt' : k < ws.length := by omega
      have htk : ws.take k ++ [ws[k]] = ws.take (k + 1) := by rw [List.take_add_one, List.getElem?_eq_getElem hlt']; rfl
      rw [if_pos (by rw [decide_eq_true_eq]; omega), idx_lt hlt, obs, hok k hlt hlt', obs, show room (((ws.take k).length : Int) + ([ws[k]].length : Int)) 16 = some () by unfold room; rw [if_pos (by simp; omega)], obs, w64_succ hlt (by omega), htk]
      exact write_L hs hl hok n (k + 1) (by omega) (by omega)
    · rw [if_neg (by rw [decide_eq_true_eq]; omega), List.take_of_length_le (by omega)]
theorem jn_len (c : UInt8) {N : Nat} : ∀ {ws : List (List UInt8)}, (∀ w ∈ ws, w.length ≤ N) → (jn c ws).length ≤ ws.length * (N + 1)
  | [], _ => by simp [jn]
  | [w], h => by have := h w (by simp); simp [jn]; omega
  | w :: v :: ws, h => by
    have h1 := h w (by simp)
    have h2 := jn_len c (ws := v :: ws) (fun x hx => h x (by simp [hx]))
    rw [jn_cons _ _ (by simp), List.length_append, List.length_cons, List.length_cons (a := w), Nat.add_mul]
    omega
theorem join_jn (c : UInt8) : ∀ ws : List (List UInt8), Lib.join ws [c] = jn c ws
  | [] => rfl
  | [w] => Lib.join_one w [c]
  | w :: v :: ws => by
    rw [Lib.join_cons, jn_cons _ _ (by simp), ← join_jn c (v :: ws), Lib.join_cons]
    simp [Lib.joinTail]
theorem line_eq {ws : List (List UInt8)} (h1 : ws.length ≤ 1000) (h2 : ∀ w ∈ ws, w.length ≤ 1000) : event_line ws = some (jn 32 ws) := by
  have h3 := jn_len 32 h2
  have h4 : ws.length * (1000 + 1) ≤ 1000 * (1000 + 1) := Nat.mul_le_mul_right _ h1
  unfold event_line strings_Join joinF
  rw [join_jn, if_pos ⟨by omega, by omega⟩, obs]
theorem words_len {e : GEvent} (h : e.fName.length ≤ 1000) : (wordsS e).length ≤ 10 ∧ ∀ w ∈ wordsS e, w.length ≤ 1000 := by
  have l1 := digS_len e.fWho; have l2 := digS_len e.fObj; have l3 := valS_len e.fV; have l4 := digS_len e.fOwn.a0; have l5 := digS_len e.fOwn.a1; have l6 := digS_len e.fOwn.a2; have l7 := digS_len e.fOwn.a3
  unfold wordsS
  repeat' split
  all_goals
    refine ⟨by simp, ?_⟩
    intro w hw
    simp only [List.mem_cons, List.not_mem_nil, or_false] at hw
    try (rcases hw with rfl | rfl | rfl | rfl | rfl | rfl | rfl | rfl | rfl | rfl <;> first | omega | (simp; done))
    try (rcases hw with rfl | rfl | rfl | rfl | rfl | rfl <;> first | omega | (simp; done))
    try (rcases hw with rfl | rfl | rfl | rfl | rfl <;> first | omega | (simp; done))
    try (rcases hw with rfl | rfl | rfl | rfl <;> first | omega | (simp; done))
    try (rcases hw with rfl | rfl | rfl <;> first | omega | (simp; done))
theorem rights_1 {e : GEvent} : ∀ p ∈ patS 1, ∀ x, (∃ x', rstep p e x = .next x') ∨ rstep p e x = .stop (some (.stop false)) := by
  intro p hp x
  simp only [patS, List.mem_cons, List.not_mem_nil, or_false] at hp
  rcases hp with rfl | rfl | rfl | rfl | rfl | rfl | rfl | rfl | rfl | rfl
  · exact .inl ⟨_, rs_lit (b := 110) (t := [101, 119]) e x (by decide) (by decide) (by decide)⟩
  · exact .inl ⟨_, rs_o e x⟩
  · rw [rs_name]
    cases nameS e.fName with
    | true => exact .inl ⟨_, rfl⟩
    | false => exact .inr rfl
  · exact .inl ⟨_, rs_lit (b := 98) (t := [121]) e x (by decide) (by decide) (by decide)⟩
  · exact .inl ⟨_, rs_w e x⟩
  · exact .inl ⟨_, rs_lit (b := 105) (t := [110]) e x (by decide) (by decide) (by decide)⟩
  · exact .inl ⟨_, rs_0 e x⟩
  · exact .inl ⟨_, rs_1 e x⟩
  · exact .inl ⟨_, rs_2 e x⟩
  · exact .inl ⟨_, rs_3 e x⟩
theorem righted_1 {e : GEvent} : rightL e (patS 1) { fKind := 1, fWho := 0, fObj := 0, fName := [], fV := zGVal, fOwn := ⟨0, 0, 0, 0⟩ } = bif nameS e.fName then some { fKind := 1, fWho := e.fWho, fObj := e.fObj, fName := e.fName, fV := zGVal, fOwn := e.fOwn } else none := by
  simp only [patS, rightL]
  rw [rs_lit (b := 110) (t := [101, 119]) _ _ (by decide) (by decide) (by decide)]
  try simp only
  rw [rs_o]
  try simp only
  rw [rs_name]
  cases nameS e.fName with
  | false => rfl
  | true =>
    simp only [cond_true]
    rw [rs_lit (b := 98) (t := [121]) _ _ (by decide) (by decide) (by decide)]
    try simp only
    rw [rs_w]
    try simp only
    rw [rs_lit (b := 105) (t := [110]) _ _ (by decide) (by decide) (by decide)]
    try simp only
    rw [rs_0]
    try simp only
    rw [rs_1]
    try simp only
    rw [rs_2]
    try simp only
    rw [rs_3]
    try simp only
theorem right_eq1 {e : GEvent} (h : e.fKind = 1) : event_Right e = some (rightS e) := by
  have q1 : event_pattern 1 = some [110, 101, 119, 32, 35, 111, 32, 36, 32, 98, 121, 32, 35, 119, 32, 105, 110, 32, 35, 48, 32, 35, 49, 32, 35, 50, 32, 35, 51] := rfl
  have q3 := fields1
  rw [q1, obs] at q3
  unfold event_Right
  rw [h, q1, obs, if_neg (by simp), obs, q3, obs]
  have hL : event_Right_L1 e (patS 1) 11 { fKind := 1, fWho := 0, fObj := 0, fName := [], fV := zGVal, fOwn := ⟨0, 0, 0, 0⟩ } 0 = _ := right_L (e := e) (wt := patS 1) (by decide) rights_1 11 0 _ rfl (by decide)
  rw [List.drop_zero, righted_1] at hL
  rw [show (((((patS 1).length : Int) : Int) - (0)).toNat + 1) = 11 from rfl, hL, obs, rightS_1 h]
  rw [← bG_dec]
  have hc : ∀ y : GEvent, bGEvent y e = bGEvent e y := fun y => by rw [bG_dec, bG_dec]; simp [eq_comm]
  cases nameS e.fName with
  | false => simp [Ctl.elim]
  | true => simp [Ctl.elim, hc]
theorem write_eq1 {e : GEvent} (h : e.fKind = 1) (he : evIn e) : event_write e = some (jn 32 (wordsS e)) := by
  obtain ⟨h1, h2, h3, h4, h5, h6, h7, h8⟩ := he
  have hl := words_len h8
  unfold event_write
  rw [h, ← Option.bind_assoc, fields1, obs]
  have hw : ∀ (i : Nat) (h : i < (patS 1).length) (h' : i < (wordsS e).length), event_spell e (patS 1)[i] = some (wordsS e)[i] := by
    rw [wordsS_1 h]
    intro i hi hi'
    match i, hi with
    | 0, _ => exact sp_lit e (by decide) (by decide) (by decide)
    | 1, _ => exact sp_num (m := 111) h2 rfl rfl
    | 2, _ => exact sp_name e
    | 3, _ => exact sp_lit e (by decide) (by decide) (by decide)
    | 4, _ => exact sp_num (m := 119) h1 rfl rfl
    | 5, _ => exact sp_lit e (by decide) (by decide) (by decide)
    | 6, _ => exact sp_num (m := 48) h4 rfl rfl
    | 7, _ => exact sp_num (m := 49) h5 rfl rfl
    | 8, _ => exact sp_num (m := 50) h6 rfl rfl
    | 9, _ => exact sp_num (m := 51) h7 rfl rfl
    | i + 10, hi => exact absurd hi (by simp [patS])
  have hL : event_write_L1 e (patS 1) 11 [] 0 = _ := write_L (e := e) (wt := patS 1) (ws := wordsS e) (by decide) (by rw [wordsS_1 h]; rfl) hw 11 0 rfl (by decide)
  rw [show (((((patS 1).length : Int) : Int) - (0)).toNat + 1) = 11 from rfl, hL, obs, line_eq (by omega) hl.2, obs]
theorem rights_2 {e : GEvent} : ∀ p ∈ patS 2, ∀ x, (∃ x', rstep p e x = .next x') ∨ rstep p e x = .stop (some (.stop false)) := by
  intro p hp x
  simp only [patS, List.mem_cons, List.not_mem_nil, or_false] at hp
  rcases hp with rfl | rfl | rfl | rfl | rfl | rfl
  · exact .inl ⟨_, rs_lit (b := 112) (t := [117, 116]) e x (by decide) (by decide) (by decide)⟩
  · exact .inl ⟨_, rs_o e x⟩
  · rw [rs_name]
    cases nameS e.fName with
    | true => exact .inl ⟨_, rfl⟩
    | false => exact .inr rfl
  · exact .inl ⟨_, rs_lit (b := 98) (t := [121]) e x (by decide) (by decide) (by decide)⟩
  · exact .inl ⟨_, rs_w e x⟩
  · exact .inl ⟨_, rs_val e x⟩
theorem righted_2 {e : GEvent} : rightL e (patS 2) { fKind := 2, fWho := 0, fObj := 0, fName := [], fV := zGVal, fOwn := ⟨0, 0, 0, 0⟩ } = bif nameS e.fName then some { fKind := 2, fWho := e.fWho, fObj := e.fObj, fName := e.fName, fV := e.fV, fOwn := ⟨0, 0, 0, 0⟩ } else none := by
  simp only [patS, rightL]
  rw [rs_lit (b := 112) (t := [117, 116]) _ _ (by decide) (by decide) (by decide)]
  try simp only
  rw [rs_o]
  try simp only
  rw [rs_name]
  cases nameS e.fName with
  | false => rfl
  | true =>
    simp only [cond_true]
    rw [rs_lit (b := 98) (t := [121]) _ _ (by decide) (by decide) (by decide)]
    try simp only
    rw [rs_w]
    try simp only
    rw [rs_val]
    try simp only
theorem right_eq2 {e : GEvent} (h : e.fKind = 2) : event_Right e = some (rightS e) := by
  have q1 : event_pattern 2 = some [112, 117, 116, 32, 35, 111, 32, 36, 32, 98, 121, 32, 35, 119, 32, 64] := rfl
  have q3 := fields2
  rw [q1, obs] at q3
  unfold event_Right
  rw [h, q1, obs, if_neg (by simp), obs, q3, obs]
  have hL : event_Right_L1 e (patS 2) 7 { fKind := 2, fWho := 0, fObj := 0, fName := [], fV := zGVal, fOwn := ⟨0, 0, 0, 0⟩ } 0 = _ := right_L (e := e) (wt := patS 2) (by decide) rights_2 7 0 _ rfl (by decide)
  rw [List.drop_zero, righted_2] at hL
  rw [show (((((patS 2).length : Int) : Int) - (0)).toNat + 1) = 7 from rfl, hL, obs, rightS_2 h]
  rw [← bG_dec]
  have hc : ∀ y : GEvent, bGEvent y e = bGEvent e y := fun y => by rw [bG_dec, bG_dec]; simp [eq_comm]
  cases nameS e.fName with
  | false => simp [Ctl.elim]
  | true => simp [Ctl.elim, hc]
theorem write_eq2 {e : GEvent} (h : e.fKind = 2) (he : evIn e) : event_write e = some (jn 32 (wordsS e)) := by
  obtain ⟨h1, h2, h3, h4, h5, h6, h7, h8⟩ := he
  have hl := words_len h8
  unfold event_write
  rw [h, ← Option.bind_assoc, fields2, obs]
  have hw : ∀ (i : Nat) (h : i < (patS 2).length) (h' : i < (wordsS e).length), event_spell e (patS 2)[i] = some (wordsS e)[i] := by
    rw [wordsS_2 h]
    intro i hi hi'
    match i, hi with
    | 0, _ => exact sp_lit e (by decide) (by decide) (by decide)
    | 1, _ => exact sp_num (m := 111) h2 rfl rfl
    | 2, _ => exact sp_name e
    | 3, _ => exact sp_lit e (by decide) (by decide) (by decide)
    | 4, _ => exact sp_num (m := 119) h1 rfl rfl
    | 5, _ => exact sp_val h3
    | i + 6, hi => exact absurd hi (by simp [patS])
  have hL : event_write_L1 e (patS 2) 7 [] 0 = _ := write_L (e := e) (wt := patS 2) (ws := wordsS e) (by decide) (by rw [wordsS_2 h]; rfl) hw 7 0 rfl (by decide)
  rw [show (((((patS 2).length : Int) : Int) - (0)).toNat + 1) = 7 from rfl, hL, obs, line_eq (by omega) hl.2, obs]
theorem rights_3 {e : GEvent} : ∀ p ∈ patS 3, ∀ x, (∃ x', rstep p e x = .next x') ∨ rstep p e x = .stop (some (.stop false)) := by
  intro p hp x
  simp only [patS, List.mem_cons, List.not_mem_nil, or_false] at hp
  rcases hp with rfl | rfl | rfl | rfl | rfl
  · exact .inl ⟨_, rs_lit (b := 99) (t := [97, 108, 108]) e x (by decide) (by decide) (by decide)⟩
  · exact .inl ⟨_, rs_o e x⟩
  · rw [rs_name]
    cases nameS e.fName with
    | true => exact .inl ⟨_, rfl⟩
    | false => exact .inr rfl
  · exact .inl ⟨_, rs_lit (b := 98) (t := [121]) e x (by decide) (by decide) (by decide)⟩
  · exact .inl ⟨_, rs_w e x⟩
theorem righted_3 {e : GEvent} : rightL e (patS 3) { fKind := 3, fWho := 0, fObj := 0, fName := [], fV := zGVal, fOwn := ⟨0, 0, 0, 0⟩ } = bif nameS e.fName then some { fKind := 3, fWho := e.fWho, fObj := e.fObj, fName := e.fName, fV := zGVal, fOwn := ⟨0, 0, 0, 0⟩ } else none := by
  simp only [patS, rightL]
  rw [rs_lit (b := 99) (t := [97, 108, 108]) _ _ (by decide) (by decide) (by decide)]
  try simp only
  rw [rs_o]
  try simp only
  rw [rs_name]
  cases nameS e.fName with
  | false => rfl
  | true =>
    simp only [cond_true]
    rw [rs_lit (b := 98) (t := [121]) _ _ (by decide) (by decide) (by decide)]
    try simp only
    rw [rs_w]
    try simp only
theorem right_eq3 {e : GEvent} (h : e.fKind = 3) : event_Right e = some (rightS e) := by
  have q1 : event_pattern 3 = some [99, 97, 108, 108, 32, 35, 111, 32, 36, 32, 98, 121, 32, 35, 119] := rfl
  have q3 := fields3
  rw [q1, obs] at q3
  unfold event_Right
  rw [h, q1, obs, if_neg (by simp), obs, q3, obs]
  have hL : event_Right_L1 e (patS 3) 6 { fKind := 3, fWho := 0, fObj := 0, fName := [], fV := zGVal, fOwn := ⟨0, 0, 0, 0⟩ } 0 = _ := right_L (e := e) (wt := patS 3) (by decide) rights_3 6 0 _ rfl (by decide)
  rw [List.drop_zero, righted_3] at hL
  rw [show (((((patS 3).length : Int) : Int) - (0)).toNat + 1) = 6 from rfl, hL, obs, rightS_3 h]
  rw [← bG_dec]
  have hc : ∀ y : GEvent, bGEvent y e = bGEvent e y := fun y => by rw [bG_dec, bG_dec]; simp [eq_comm]
  cases nameS e.fName with
  | false => simp [Ctl.elim]
  | true => simp [Ctl.elim, hc]
theorem write_eq3 {e : GEvent} (h : e.fKind = 3) (he : evIn e) : event_write e = some (jn 32 (wordsS e)) := by
  obtain ⟨h1, h2, h3, h4, h5, h6, h7, h8⟩ := he
  have hl := words_len h8
  unfold event_write
  rw [h, ← Option.bind_assoc, fields3, obs]
  have hw : ∀ (i : Nat) (h : i < (patS 3).length) (h' : i < (wordsS e).length), event_spell e (patS 3)[i] = some (wordsS e)[i] := by
    rw [wordsS_3 h]
    intro i hi hi'
    match i, hi with
    | 0, _ => exact sp_lit e (by decide) (by decide) (by decide)
    | 1, _ => exact sp_num (m := 111) h2 rfl rfl
    | 2, _ => exact sp_name e
    | 3, _ => exact sp_lit e (by decide) (by decide) (by decide)
    | 4, _ => exact sp_num (m := 119) h1 rfl rfl
    | i + 5, hi => exact absurd hi (by simp [patS])
  have hL : event_write_L1 e (patS 3) 6 [] 0 = _ := write_L (e := e) (wt := patS 3) (ws := wordsS e) (by decide) (by rw [wordsS_3 h]; rfl) hw 6 0 rfl (by decide)
  rw [show (((((patS 3).length : Int) : Int) - (0)).toNat + 1) = 6 from rfl, hL, obs, line_eq (by omega) hl.2, obs]
theorem rights_4 {e : GEvent} : ∀ p ∈ patS 4, ∀ x, (∃ x', rstep p e x = .next x') ∨ rstep p e x = .stop (some (.stop false)) := by
  intro p hp x
  simp only [patS, List.mem_cons, List.not_mem_nil, or_false] at hp
  rcases hp with rfl | rfl | rfl
  · exact .inl ⟨_, rs_lit (b := 98) (t := [97, 99, 107]) e x (by decide) (by decide) (by decide)⟩
  · exact .inl ⟨_, rs_w e x⟩
  · exact .inl ⟨_, rs_val e x⟩
theorem righted_4 {e : GEvent} : rightL e (patS 4) { fKind := 4, fWho := 0, fObj := 0, fName := [], fV := zGVal, fOwn := ⟨0, 0, 0, 0⟩ } = some { fKind := 4, fWho := e.fWho, fObj := 0, fName := [], fV := e.fV, fOwn := ⟨0, 0, 0, 0⟩ } := by
  simp only [patS, rightL]
  rw [rs_lit (b := 98) (t := [97, 99, 107]) _ _ (by decide) (by decide) (by decide)]
  try simp only
  rw [rs_w]
  try simp only
  rw [rs_val]
  try simp only
theorem right_eq4 {e : GEvent} (h : e.fKind = 4) : event_Right e = some (rightS e) := by
  have q1 : event_pattern 4 = some [98, 97, 99, 107, 32, 35, 119, 32, 64] := rfl
  have q3 := fields4
  rw [q1, obs] at q3
  unfold event_Right
  rw [h, q1, obs, if_neg (by simp), obs, q3, obs]
  have hL : event_Right_L1 e (patS 4) 4 { fKind := 4, fWho := 0, fObj := 0, fName := [], fV := zGVal, fOwn := ⟨0, 0, 0, 0⟩ } 0 = _ := right_L (e := e) (wt := patS 4) (by decide) rights_4 4 0 _ rfl (by decide)
  rw [List.drop_zero, righted_4] at hL
  rw [show (((((patS 4).length : Int) : Int) - (0)).toNat + 1) = 4 from rfl, hL, obs, rightS_4 h]
  rw [← bG_dec]
  have hc : ∀ y : GEvent, bGEvent y e = bGEvent e y := fun y => by rw [bG_dec, bG_dec]; simp [eq_comm]
  simp [Ctl.elim, hc]
theorem write_eq4 {e : GEvent} (h : e.fKind = 4) (he : evIn e) : event_write e = some (jn 32 (wordsS e)) := by
  obtain ⟨h1, h2, h3, h4, h5, h6, h7, h8⟩ := he
  have hl := words_len h8
  unfold event_write
  rw [h, ← Option.bind_assoc, fields4, obs]
  have hw : ∀ (i : Nat) (h : i < (patS 4).length) (h' : i < (wordsS e).length), event_spell e (patS 4)[i] = some (wordsS e)[i] := by
    rw [wordsS_4 h]
    intro i hi hi'
    match i, hi with
    | 0, _ => exact sp_lit e (by decide) (by decide) (by decide)
    | 1, _ => exact sp_num (m := 119) h1 rfl rfl
    | 2, _ => exact sp_val h3
    | i + 3, hi => exact absurd hi (by simp [patS])
  have hL : event_write_L1 e (patS 4) 4 [] 0 = _ := write_L (e := e) (wt := patS 4) (ws := wordsS e) (by decide) (by rw [wordsS_4 h]; rfl) hw 4 0 rfl (by decide)
  rw [show (((((patS 4).length : Int) : Int) - (0)).toNat + 1) = 4 from rfl, hL, obs, line_eq (by omega) hl.2, obs]
theorem rights_5 {e : GEvent} : ∀ p ∈ patS 5, ∀ x, (∃ x', rstep p e x = .next x') ∨ rstep p e x = .stop (some (.stop false)) := by
  intro p hp x
  simp only [patS, List.mem_cons, List.not_mem_nil, or_false] at hp
  rcases hp with rfl | rfl | rfl | rfl | rfl | rfl
  · exact .inl ⟨_, rs_lit (b := 109) (t := [111, 118, 101]) e x (by decide) (by decide) (by decide)⟩
  · exact .inl ⟨_, rs_o e x⟩
  · exact .inl ⟨_, rs_lit (b := 116) (t := [111]) e x (by decide) (by decide) (by decide)⟩
  · exact .inl ⟨_, rs_0 e x⟩
  · exact .inl ⟨_, rs_lit (b := 98) (t := [121]) e x (by decide) (by decide) (by decide)⟩
  · exact .inl ⟨_, rs_w e x⟩
theorem righted_5 {e : GEvent} : rightL e (patS 5) { fKind := 5, fWho := 0, fObj := 0, fName := [], fV := zGVal, fOwn := ⟨0, 0, 0, 0⟩ } = some { fKind := 5, fWho := e.fWho, fObj := e.fObj, fName := [], fV := zGVal, fOwn := ⟨e.fOwn.a0, 0, 0, 0⟩ } := by
  simp only [patS, rightL]
  rw [rs_lit (b := 109) (t := [111, 118, 101]) _ _ (by decide) (by decide) (by decide)]
  try simp only
  rw [rs_o]
  try simp only
  rw [rs_lit (b := 116) (t := [111]) _ _ (by decide) (by decide) (by decide)]
  try simp only
  rw [rs_0]
  try simp only
  rw [rs_lit (b := 98) (t := [121]) _ _ (by decide) (by decide) (by decide)]
  try simp only
  rw [rs_w]
  try simp only
theorem right_eq5 {e : GEvent} (h : e.fKind = 5) : event_Right e = some (rightS e) := by
  have q1 : event_pattern 5 = some [109, 111, 118, 101, 32, 35, 111, 32, 116, 111, 32, 35, 48, 32, 98, 121, 32, 35, 119] := rfl
  have q3 := fields5
  rw [q1, obs] at q3
  unfold event_Right
  rw [h, q1, obs, if_neg (by simp), obs, q3, obs]
  have hL : event_Right_L1 e (patS 5) 7 { fKind := 5, fWho := 0, fObj := 0, fName := [], fV := zGVal, fOwn := ⟨0, 0, 0, 0⟩ } 0 = _ := right_L (e := e) (wt := patS 5) (by decide) rights_5 7 0 _ rfl (by decide)
  rw [List.drop_zero, righted_5] at hL
  rw [show (((((patS 5).length : Int) : Int) - (0)).toNat + 1) = 7 from rfl, hL, obs, rightS_5 h]
  rw [← bG_dec]
  have hc : ∀ y : GEvent, bGEvent y e = bGEvent e y := fun y => by rw [bG_dec, bG_dec]; simp [eq_comm]
  simp [Ctl.elim, hc]
theorem write_eq5 {e : GEvent} (h : e.fKind = 5) (he : evIn e) : event_write e = some (jn 32 (wordsS e)) := by
  obtain ⟨h1, h2, h3, h4, h5, h6, h7, h8⟩ := he
  have hl := words_len h8
  unfold event_write
  rw [h, ← Option.bind_assoc, fields5, obs]
  have hw : ∀ (i : Nat) (h : i < (patS 5).length) (h' : i < (wordsS e).length), event_spell e (patS 5)[i] = some (wordsS e)[i] := by
    rw [wordsS_5 h]
    intro i hi hi'
    match i, hi with
    | 0, _ => exact sp_lit e (by decide) (by decide) (by decide)
    | 1, _ => exact sp_num (m := 111) h2 rfl rfl
    | 2, _ => exact sp_lit e (by decide) (by decide) (by decide)
    | 3, _ => exact sp_num (m := 48) h4 rfl rfl
    | 4, _ => exact sp_lit e (by decide) (by decide) (by decide)
    | 5, _ => exact sp_num (m := 119) h1 rfl rfl
    | i + 6, hi => exact absurd hi (by simp [patS])
  have hL : event_write_L1 e (patS 5) 7 [] 0 = _ := write_L (e := e) (wt := patS 5) (ws := wordsS e) (by decide) (by rw [wordsS_5 h]; rfl) hw 7 0 rfl (by decide)
  rw [show (((((patS 5).length : Int) : Int) - (0)).toNat + 1) = 7 from rfl, hL, obs, line_eq (by omega) hl.2, obs]
theorem rights_6 {e : GEvent} : ∀ p ∈ patS 6, ∀ x, (∃ x', rstep p e x = .next x') ∨ rstep p e x = .stop (some (.stop false)) := by
  intro p hp x
  simp only [patS, List.mem_cons, List.not_mem_nil, or_false] at hp
  rcases hp with rfl | rfl | rfl | rfl
  · exact .inl ⟨_, rs_lit (b := 100) (t := [101, 108, 101, 116, 101]) e x (by decide) (by decide) (by decide)⟩
  · exact .inl ⟨_, rs_o e x⟩
  · exact .inl ⟨_, rs_lit (b := 98) (t := [121]) e x (by decide) (by decide) (by decide)⟩
  · exact .inl ⟨_, rs_w e x⟩
theorem righted_6 {e : GEvent} : rightL e (patS 6) { fKind := 6, fWho := 0, fObj := 0, fName := [], fV := zGVal, fOwn := ⟨0, 0, 0, 0⟩ } = some { fKind := 6, fWho := e.fWho, fObj := e.fObj, fName := [], fV := zGVal, fOwn := ⟨0, 0, 0, 0⟩ } := by
  simp only [patS, rightL]
  rw [rs_lit (b := 100) (t := [101, 108, 101, 116, 101]) _ _ (by decide) (by decide) (by decide)]
  try simp only
  rw [rs_o]
  try simp only
  rw [rs_lit (b := 98) (t := [121]) _ _ (by decide) (by decide) (by decide)]
  try simp only
  rw [rs_w]
  try simp only
theorem right_eq6 {e : GEvent} (h : e.fKind = 6) : event_Right e = some (rightS e) := by
  have q1 : event_pattern 6 = some [100, 101, 108, 101, 116, 101, 32, 35, 111, 32, 98, 121, 32, 35, 119] := rfl
  have q3 := fields6
  rw [q1, obs] at q3
  unfold event_Right
  rw [h, q1, obs, if_neg (by simp), obs, q3, obs]
  have hL : event_Right_L1 e (patS 6) 5 { fKind := 6, fWho := 0, fObj := 0, fName := [], fV := zGVal, fOwn := ⟨0, 0, 0, 0⟩ } 0 = _ := right_L (e := e) (wt := patS 6) (by decide) rights_6 5 0 _ rfl (by decide)
  rw [List.drop_zero, righted_6] at hL
  rw [show (((((patS 6).length : Int) : Int) - (0)).toNat + 1) = 5 from rfl, hL, obs, rightS_6 h]
  rw [← bG_dec]
  have hc : ∀ y : GEvent, bGEvent y e = bGEvent e y := fun y => by rw [bG_dec, bG_dec]; simp [eq_comm]
  simp [Ctl.elim, hc]
theorem write_eq6 {e : GEvent} (h : e.fKind = 6) (he : evIn e) : event_write e = some (jn 32 (wordsS e)) := by
  obtain ⟨h1, h2, h3, h4, h5, h6, h7, h8⟩ := he
  have hl := words_len h8
  unfold event_write
  rw [h, ← Option.bind_assoc, fields6, obs]
  have hw : ∀ (i : Nat) (h : i < (patS 6).length) (h' : i < (wordsS e).length), event_spell e (patS 6)[i] = some (wordsS e)[i] := by
    rw [wordsS_6 h]
    intro i hi hi'
    match i, hi with
    | 0, _ => exact sp_lit e (by decide) (by decide) (by decide)
    | 1, _ => exact sp_num (m := 111) h2 rfl rfl
    | 2, _ => exact sp_lit e (by decide) (by decide) (by decide)
    | 3, _ => exact sp_num (m := 119) h1 rfl rfl
    | i + 4, hi => exact absurd hi (by simp [patS])
  have hL : event_write_L1 e (patS 6) 5 [] 0 = _ := write_L (e := e) (wt := patS 6) (ws := wordsS e) (by decide) (by rw [wordsS_6 h]; rfl) hw 5 0 rfl (by decide)
  rw [show (((((patS 6).length : Int) : Int) - (0)).toNat + 1) = 5 from rfl, hL, obs, line_eq (by omega) hl.2, obs]
theorem event_Right_eq (e : GEvent) : event_Right e = some (rightS e) := by
  by_cases hk : 1 ≤ e.fKind ∧ e.fKind ≤ 6
  · rcases kind_cases hk.1 hk.2 with h | h | h | h | h | h
    · exact right_eq1 h
    · exact right_eq2 h
    · exact right_eq3 h
    · exact right_eq4 h
    · exact right_eq5 h
    · exact right_eq6 h
  · have hr : rightS e = false := by
      cases hr : rightS e with
      | false => rfl
      | true => have := rightS_kind hr; exact absurd ⟨this.1, this.2.1⟩ hk
    have hp : event_pattern e.fKind = some [] := by
      unfold event_pattern
      rw [if_neg (by simp; omega), if_neg (by simp; omega), if_neg (by simp; omega), if_neg (by simp; omega), if_neg (by simp; omega), if_neg (by simp; omega)]
    unfold event_Right
    rw [hp, obs, hr]; rfl
theorem event_write_eq {e : GEvent} (hr : rightS e = true) (he : evIn e) : event_write e = some (tx e) := by
  obtain ⟨k1, k2, _⟩ := rightS_kind hr
  unfold tx
  rw [if_pos hr]
  rcases kind_cases k1 k2 with h | h | h | h | h | h
  · exact write_eq1 h he
  · exact write_eq2 h he
  · exact write_eq3 h he
  · exact write_eq4 h he
  · exact write_eq5 h he
  · exact write_eq6 h he
theorem event_Text_eq {e : GEvent} (he : evIn e) : event_Text e = some (tx e) := by
  unfold event_Text
  rw [event_Right_eq, obs]
  cases hr : rightS e with
  | false => unfold tx; rw [hr]; rfl
  | true => rw [if_neg (by simp), event_write_eq hr he, obs]
theorem tx_len {e : GEvent} (he : evIn e) : (tx e).length ≤ 10010 := by
  unfold tx
  split
  · have h := words_len he.2.2.2.2.2.2.2
    have h2 := jn_len 32 h.2
    have h3 : (wordsS e).length * (1000 + 1) ≤ 10 * (1000 + 1) := Nat.mul_le_mul_right _ h.1
    omega
  · simp
def allS (l : List GEvent) : List UInt8 := (l.map fun e => if rightS e = true then tx e ++ [10] else []).flatten
theorem allS_take {l : List GEvent} {k : Nat} (h : k < l.length) : allS (l.take (k + 1)) = allS (l.take k) ++ (if rightS l[k] = true then tx l[k] ++ [10] else []) := by
  unfold allS
  rw [List.take_add_one, List.getElem?_eq_getElem h, List.map_append, List.flatten_append]
  simp only [Option.toList_some, List.map_cons, List.map_nil, List.flatten_cons, List.flatten_nil, List.append_nil]
theorem allS_len {l : List GEvent} (hl : ∀ e ∈ l, evIn e) : (allS l).length ≤ l.length * 10011 := by
  induction l with
  | nil => simp [allS]
  | cons e l ih =>
    have h1 := tx_len (hl e (by simp))
    have h2 := ih (fun x hx => hl x (by simp [hx]))
    have e1 : allS (e :: l) = (if rightS e = true then tx e ++ [10] else []) ++ allS l := by simp [allS]
    rw [e1, List.length_append, List.length_cons, Nat.add_mul]
    split
    · rw [List.length_append, List.length_singleton]; omega
    · rw [List.length_nil]; omega
theorem bytesL_app (a b : List UInt8) : bytesL (a ++ b) = bytesL a ++ bytesL b := by simp [bytesL]
theorem bytesL_len (a : List UInt8) : (bytesL a).length = a.length := by simp [bytesL]
theorem room_big {n : Int} (h : n ≤ 100000000) : room n 1 = some () := by unfold room; rw [if_pos (by omega)]
theorem all_step {l : List GEvent} {k : Nat} (hl : l.length ≤ 1000) (he : ∀ e ∈ l, evIn e) (h : k < l.length) : (allS (l.take k)).length ≤ 10011000 ∧ (tx l[k]).length ≤ 10010 := by
  refine ⟨?_, tx_len (he _ (List.getElem_mem h))⟩
  have h1 := allS_len (l := l.take k) (fun e hx => he e (List.mem_of_mem_take hx))
  have h2 : (l.take k).length * 10011 ≤ 1000 * 10011 := Nat.mul_le_mul_right _ (by rw [List.length_take]; omega)
  omega
theorem all_L {l : List GEvent} (hl : l.length ≤ 1000) (he : ∀ e ∈ l, evIn e) : ∀ (n k : Nat), n + k = l.length + 1 → k ≤ l.length → event_All_L1 l n (bytesL (allS (l.take k))) (k : Int) = some (bytesL (allS l))
  | 0, k, h, hk => by omega
  | n + 1, k, h, hk => by
    unfold event_All_L1
    by_cases hlt : k < l.length
    · obtain ⟨b1, b2⟩ := all_step hl he hlt
      have ih := all_L hl he n (k + 1) (by omega) (by omega)
      rw [allS_take hlt, bytesL_app] at ih
      rw [if_pos (by rw [decide_eq_true_eq]; omega), idx_lt hlt, obs, event_Right_eq, obs, w64_succ hlt (by omega)]
      cases hr : rightS l[k] with
      | false =>
        rw [hr, if_neg (by simp)] at ih
        rw [if_neg (by simp), obs]
        simpa [bytesL] using ih
      | true =>
        rw [hr, if_pos rfl, bytesL_app] at ih
        rw [if_pos rfl, event_write_eq hr (he _ (List.getElem_mem hlt)), obs, room_big (by rw [bytesL_len]; omega), obs, room_big (by rw [List.length_append, bytesL_len, bytesL_len]; omega), obs, obs, List.append_assoc]
        exact ih
    · rw [if_neg (by rw [decide_eq_true_eq]; omega), List.take_of_length_le (by omega)]
theorem event_All_eq {l : List GEvent} (hl : l.length ≤ 1000) (he : ∀ e ∈ l, evIn e) : event_All l = some (allS l) := by
  unfold event_All
  have h : event_All_L1 l (l.length + 1) [] 0 = _ := all_L hl he (l.length + 1) 0 (by omega) (by omega)
  rw [show ((((l.length : Int) : Int) - (0)).toNat + 1) = l.length + 1 by omega, h, obs, strB_bytes, obs]
abbrev smallS (a : Int) : Prop := -999999999 ≤ a ∧ a ≤ 999999999
abbrev smallE (e : GEvent) : Prop := smallS e.fWho ∧ smallS e.fObj ∧ smallS e.fV.fN ∧ smallS e.fOwn.a0 ∧ smallS e.fOwn.a1 ∧ smallS e.fOwn.a2 ∧ smallS e.fOwn.a3
theorem ref42_small_eq (a : Int) : ref42_small a = some (decide (smallS a)) := by
  unfold ref42_small smallS
  by_cases h1 : -999999999 ≤ a
  · rw [if_pos (by rw [decide_eq_true_eq]; omega)]
    congr 1
    simp [h1]
  · rw [if_neg (by rw [decide_eq_true_eq]; omega)]
    congr 1
    simp [h1]
theorem iteDec (p q : Prop) [Decidable p] [Decidable q] : (if decide p = true then some (decide q) else some false : Option Bool) = some (decide (p ∧ q)) := by
  by_cases hp : p
  · rw [if_pos (decide_eq_true hp)]; congr 1; simp [hp]
  · rw [if_neg (by simp [hp])]; congr 1; simp [hp]
theorem ref42_Small_eq (e : GEvent) : ref42_Small e = some (decide (smallE e)) := by
  unfold ref42_Small
  rw [ref42_small_eq, ref42_small_eq, ref42_small_eq, ref42_small_eq, ref42_small_eq, ref42_small_eq, ref42_small_eq]
  simp only [obs]
  rw [iteDec, iteDec, iteDec, iteDec, iteDec, iteDec]
theorem valI_valS {v : GVal} (h : smallS v.fN) : valI (valS v) = v := by
  obtain ⟨r, n⟩ := v
  unfold valS
  cases r with
  | true => simp only [if_true]; rw [valI_cons, if_pos rfl, numI_digS h.1 h.2]
  | false =>
    simp only [Bool.false_eq_true, if_false]
    cases hd : digS n with
    | nil => exact absurd hd (digS_ne n)
    | cons b t =>
      have hb : b ≠ 64 := by
        intro e
        rcases digS_mem (a := n) (b := b) (by rw [hd]; simp) with ⟨h1, _⟩ | ⟨_, h2⟩
        · rw [e] at h1; cases h1
        · rw [e] at h2; simp at h2
      rw [valI_cons, if_neg hb, ← hd, numI_digS h.1 h.2]
theorem cand_back1 {e : GEvent} (h : e.fKind = 1) (hr : rightS e = true) (hs : smallE e) : candS 1 (wordsS e) = e ∧ nameS e.fName = true := by
  rw [rightS_1 h, Bool.and_eq_true, decide_eq_true_eq] at hr
  obtain ⟨h1, h2, h3, h4, h5, h6, h7⟩ := hs
  refine ⟨?_, hr.2⟩
  rw [wordsS_1 h]
  refine Eq.trans ?_ hr.1.symm
  show ({ fKind := 1, fWho := numI (digS e.fWho), fObj := numI (digS e.fObj), fName := e.fName, fV := zGVal, fOwn := ⟨numI (digS e.fOwn.a0), numI (digS e.fOwn.a1), numI (digS e.fOwn.a2), numI (digS e.fOwn.a3)⟩ } : GEvent) = _
  rw [numI_digS h1.1 h1.2, numI_digS h2.1 h2.2, numI_digS h4.1 h4.2, numI_digS h5.1 h5.2, numI_digS h6.1 h6.2, numI_digS h7.1 h7.2]
theorem cand_back2 {e : GEvent} (h : e.fKind = 2) (hr : rightS e = true) (hs : smallE e) : candS 2 (wordsS e) = e ∧ nameS e.fName = true := by
  rw [rightS_2 h, Bool.and_eq_true, decide_eq_true_eq] at hr
  obtain ⟨h1, h2, h3, h4, h5, h6, h7⟩ := hs
  refine ⟨?_, hr.2⟩
  rw [wordsS_2 h]
  refine Eq.trans ?_ hr.1.symm
  show ({ fKind := 2, fWho := numI (digS e.fWho), fObj := numI (digS e.fObj), fName := e.fName, fV := valI (valS e.fV), fOwn := ⟨0, 0, 0, 0⟩ } : GEvent) = _
  rw [numI_digS h1.1 h1.2, numI_digS h2.1 h2.2, valI_valS h3]
theorem cand_back3 {e : GEvent} (h : e.fKind = 3) (hr : rightS e = true) (hs : smallE e) : candS 3 (wordsS e) = e ∧ nameS e.fName = true := by
  rw [rightS_3 h, Bool.and_eq_true, decide_eq_true_eq] at hr
  obtain ⟨h1, h2, h3, h4, h5, h6, h7⟩ := hs
  refine ⟨?_, hr.2⟩
  rw [wordsS_3 h]
  refine Eq.trans ?_ hr.1.symm
  show ({ fKind := 3, fWho := numI (digS e.fWho), fObj := numI (digS e.fObj), fName := e.fName, fV := zGVal, fOwn := ⟨0, 0, 0, 0⟩ } : GEvent) = _
  rw [numI_digS h1.1 h1.2, numI_digS h2.1 h2.2]
theorem cand_back4 {e : GEvent} (h : e.fKind = 4) (hr : rightS e = true) (hs : smallE e) : candS 4 (wordsS e) = e := by
  rw [rightS_4 h, decide_eq_true_eq] at hr
  obtain ⟨h1, h2, h3, h4, h5, h6, h7⟩ := hs
  rw [wordsS_4 h]
  refine Eq.trans ?_ hr.symm
  show ({ fKind := 4, fWho := numI (digS e.fWho), fObj := 0, fName := [], fV := valI (valS e.fV), fOwn := ⟨0, 0, 0, 0⟩ } : GEvent) = _
  rw [numI_digS h1.1 h1.2, valI_valS h3]
theorem cand_back5 {e : GEvent} (h : e.fKind = 5) (hr : rightS e = true) (hs : smallE e) : candS 5 (wordsS e) = e := by
  rw [rightS_5 h, decide_eq_true_eq] at hr
  obtain ⟨h1, h2, h3, h4, h5, h6, h7⟩ := hs
  rw [wordsS_5 h]
  refine Eq.trans ?_ hr.symm
  show ({ fKind := 5, fWho := numI (digS e.fWho), fObj := numI (digS e.fObj), fName := [], fV := zGVal, fOwn := ⟨numI (digS e.fOwn.a0), 0, 0, 0⟩ } : GEvent) = _
  rw [numI_digS h1.1 h1.2, numI_digS h2.1 h2.2, numI_digS h4.1 h4.2]
theorem cand_back6 {e : GEvent} (h : e.fKind = 6) (hr : rightS e = true) (hs : smallE e) : candS 6 (wordsS e) = e := by
  rw [rightS_6 h, decide_eq_true_eq] at hr
  obtain ⟨h1, h2, h3, h4, h5, h6, h7⟩ := hs
  rw [wordsS_6 h]
  refine Eq.trans ?_ hr.symm
  show ({ fKind := 6, fWho := numI (digS e.fWho), fObj := numI (digS e.fObj), fName := [], fV := zGVal, fOwn := ⟨0, 0, 0, 0⟩ } : GEvent) = _
  rw [numI_digS h1.1 h1.2, numI_digS h2.1 h2.2]
theorem words_free {e : GEvent} (hr : rightS e = true) {c : UInt8} (hc : c.toNat ≤ 32) (hC : isC c = false) : (∀ w ∈ wordsS e, c ∉ w) ∧ wordsS e ≠ [] := by
  obtain ⟨k1, k2, k3⟩ := rightS_kind hr
  rcases kind_cases k1 k2 with h | h | h | h | h | h
  · exact ⟨free_1 h (k3 (by omega)) hc hC, by rw [wordsS_1 h]; simp⟩
  · exact ⟨free_2 h (k3 (by omega)) hc hC, by rw [wordsS_2 h]; simp⟩
  · exact ⟨free_3 h (k3 (by omega)) hc hC, by rw [wordsS_3 h]; simp⟩
  · exact ⟨free_4 h hc hC, by rw [wordsS_4 h]; simp⟩
  · exact ⟨free_5 h hc hC, by rw [wordsS_5 h]; simp⟩
  · exact ⟨free_6 h hc hC, by rw [wordsS_6 h]; simp⟩
theorem read_back {e : GEvent} (hr : rightS e = true) (hs : smallE e) : readS (tx e) = (e, true) := by
  obtain ⟨hf, hne⟩ := words_free hr (c := 32) (by decide) isC_32
  have ht : spl 32 (tx e) = wordsS e := by unfold tx; rw [if_pos hr]; exact spl_jn 32 hne hf
  obtain ⟨k1, k2, k3⟩ := rightS_kind hr
  unfold readS
  rw [← ok_hit1, ← ok_hit2, ← ok_hit3, ← ok_hit4, ← ok_hit5, ← ok_hit6, ht]
  rcases kind_cases k1 k2 with h | h | h | h | h | h
  · obtain ⟨c, n⟩ := cand_back1 h hr hs
    have o : okB 1 (wordsS e) = true := (ok_words1 _).2 ⟨by rw [c], by rw [wordsS_1 h]; exact n⟩
    rw [o, if_pos rfl, c]
  · obtain ⟨c, n⟩ := cand_back2 h hr hs
    have o : okB 2 (wordsS e) = true := (ok_words2 _).2 ⟨by rw [c], by rw [wordsS_2 h]; exact n⟩
    have o1 : okB 1 (wordsS e) = false := by rw [wordsS_2 h]; rfl
    rw [o1, if_neg (by simp), o, if_pos rfl, c]
  · obtain ⟨c, n⟩ := cand_back3 h hr hs
    have o : okB 3 (wordsS e) = true := (ok_words3 _).2 ⟨by rw [c], by rw [wordsS_3 h]; exact n⟩
    have o1 : okB 1 (wordsS e) = false := by rw [wordsS_3 h]; rfl
    have o2 : okB 2 (wordsS e) = false := by rw [wordsS_3 h]; rfl
    rw [o1, if_neg (by simp), o2, if_neg (by simp), o, if_pos rfl, c]
  · have c := cand_back4 h hr hs
    have o : okB 4 (wordsS e) = true := (ok_words4 _).2 (by rw [c])
    have o1 : okB 1 (wordsS e) = false := by rw [wordsS_4 h]; rfl
    have o2 : okB 2 (wordsS e) = false := by rw [wordsS_4 h]; rfl
    have o3 : okB 3 (wordsS e) = false := by rw [wordsS_4 h]; rfl
    rw [o1, if_neg (by simp), o2, if_neg (by simp), o3, if_neg (by simp), o, if_pos rfl, c]
  · have c := cand_back5 h hr hs
    have o : okB 5 (wordsS e) = true := (ok_words5 _).2 (by rw [c])
    have o1 : okB 1 (wordsS e) = false := by rw [wordsS_5 h]; rfl
    have o2 : okB 2 (wordsS e) = false := by rw [wordsS_5 h]; rfl
    have o3 : okB 3 (wordsS e) = false := by rw [wordsS_5 h]; rfl
    have o4 : okB 4 (wordsS e) = false := by rw [wordsS_5 h]; rfl
    rw [o1, if_neg (by simp), o2, if_neg (by simp), o3, if_neg (by simp), o4, if_neg (by simp), o, if_pos rfl, c]
  · have c := cand_back6 h hr hs
    have o : okB 6 (wordsS e) = true := (ok_words6 _).2 (by rw [c])
    have o1 : okB 1 (wordsS e) = false := by rw [wordsS_6 h]; rfl
    have o2 : okB 2 (wordsS e) = false := by rw [wordsS_6 h]; rfl
    have o3 : okB 3 (wordsS e) = false := by rw [wordsS_6 h]; rfl
    have o4 : okB 4 (wordsS e) = false := by rw [wordsS_6 h]; rfl
    have o5 : okB 5 (wordsS e) = false := by rw [wordsS_6 h]; rfl
    rw [o1, if_neg (by simp), o2, if_neg (by simp), o3, if_neg (by simp), o4, if_neg (by simp), o5, if_neg (by simp), o, if_pos rfl, c]
theorem jn_mem {c b : UInt8} : ∀ {ws : List (List UInt8)}, b ∈ jn c ws → b = c ∨ ∃ w ∈ ws, b ∈ w
  | [], h => by simp [jn] at h
  | [w], h => .inr ⟨w, by simp, by simpa [jn] using h⟩
  | w :: v :: ws, h => by
    rw [jn_cons _ _ (by simp)] at h
    rcases List.mem_append.1 h with h | h
    · exact .inr ⟨w, by simp, h⟩
    · rcases List.mem_cons.1 h with h | h
      · exact .inl h
      · rcases jn_mem h with h | ⟨x, hx, h⟩
        · exact .inl h
        · exact .inr ⟨x, by simp [List.mem_cons.1 hx], h⟩
theorem tx_no10 {e : GEvent} (hr : rightS e = true) : (10 : UInt8) ∉ tx e := by
  intro h
  unfold tx at h
  rw [if_pos hr] at h
  rcases jn_mem h with h | ⟨w, hw, h⟩
  · cases h
  · exact (words_free hr (c := 10) (by decide) isC_10).1 w hw h
def goodE (e : GEvent) : Prop := rightS e = true ∧ smallE e ∧ evIn e
theorem spl_all : ∀ {l : List GEvent}, (∀ e ∈ l, goodE e) → spl 10 (allS l) = l.map tx ++ [[]]
  | [], _ => rfl
  | e :: l, h => by
    have he := (h e (by simp)).1
    have e1 : allS (e :: l) = tx e ++ 10 :: allS l := by simp [allS, he]
    rw [e1, spl_app (tx_no10 he), spl_all (fun x hx => h x (by simp [hx]))]; rfl
theorem lin_all : ∀ {l acc : List GEvent}, (∀ e ∈ l, goodE e) → linC (l.map tx ++ [[]]) acc = .next (acc ++ l)
  | [], acc, _ => by simp [linC]
  | e :: l, acc, h => by
    have he := h e (by simp)
    rw [List.map_cons, List.cons_append, linC_cons _ (by simp), read_back he.1 he.2.1, if_pos rfl, lin_all (fun x hx => h x (by simp [hx])), List.append_assoc]; rfl
theorem readS_spec (s : List UInt8) : ((readS s).2 = true ∧ ∃ c, (readS s).1 = c ∧ hitC s c = true ∧ (s.length ≤ 1000 → evIn c)) ∨ ((readS s).2 = false ∧ (readS s).1 = zGEvent) := by
  unfold readS
  by_cases h1 : hitC s (candS 1 (spl 32 s)) = true
  · rw [if_pos h1]; exact .inl ⟨rfl, _, rfl, h1, fun hs => cand_in1 hs⟩
  rw [if_neg h1]
  by_cases h2 : hitC s (candS 2 (spl 32 s)) = true
  · rw [if_pos h2]; exact .inl ⟨rfl, _, rfl, h2, fun hs => cand_in2 hs⟩
  rw [if_neg h2]
  by_cases h3 : hitC s (candS 3 (spl 32 s)) = true
  · rw [if_pos h3]; exact .inl ⟨rfl, _, rfl, h3, fun hs => cand_in3 hs⟩
  rw [if_neg h3]
  by_cases h4 : hitC s (candS 4 (spl 32 s)) = true
  · rw [if_pos h4]; exact .inl ⟨rfl, _, rfl, h4, fun hs => cand_in4 hs⟩
  rw [if_neg h4]
  by_cases h5 : hitC s (candS 5 (spl 32 s)) = true
  · rw [if_pos h5]; exact .inl ⟨rfl, _, rfl, h5, fun hs => cand_in5 hs⟩
  rw [if_neg h5]
  by_cases h6 : hitC s (candS 6 (spl 32 s)) = true
  · rw [if_pos h6]; exact .inl ⟨rfl, _, rfl, h6, fun hs => cand_in6 hs⟩
  rw [if_neg h6]
  exact .inr ⟨rfl, rfl⟩
theorem hit_right {s : List UInt8} {c : GEvent} (h : hitC s c = true) : rightS c = true ∧ tx c = s := by
  unfold hitC at h
  rw [Bool.and_eq_true, beq_iff_eq] at h
  refine ⟨?_, h.2⟩
  cases hr : rightS c with
  | true => rfl
  | false =>
    have : tx c = [] := by unfold tx; rw [hr]; rfl
    rw [h.2] at this
    rw [this] at h
    cases h.1
theorem ev_in {e : GEvent} (h : goodGEvent e) (hr : rightS e = true) : evIn e := by
  have hn : e.fName.length ≤ 1000 := by
    obtain ⟨k1, k2, k3⟩ := rightS_kind hr
    by_cases hk : e.fKind ≤ 3
    · have := k3 hk
      cases hm : e.fName with
      | nil => simp
      | cons b t =>
        rw [hm] at this
        simp only [nameS, Bool.and_eq_true, decide_eq_true_eq] at this
        simp; omega
    · have : e.fName = [] := by
        rcases kind_cases k1 k2 with h | h | h | h | h | h
        · omega
        · omega
        · omega
        · rw [rightS_4 h, decide_eq_true_eq] at hr; exact congrArg GEvent.fName hr
        · rw [rightS_5 h, decide_eq_true_eq] at hr; exact congrArg GEvent.fName hr
        · rw [rightS_6 h, decide_eq_true_eq] at hr; exact congrArg GEvent.fName hr
      rw [this]; simp
  obtain ⟨_, h2, h3, _, h5, h6, h7, h8, h9⟩ := h
  exact ⟨h2, h3, h5.2, h6, h7, h8, h9, hn⟩
theorem back_skip {l acc : List GEvent} {n k : Nat} (hlt : k < l.length) (hl : l.length ≤ 1000) (hg : (rightS l[k] && decide (smallE l[k])) = false) : law42_EventBack_L1 l (n + 1) acc (k : Int) = law42_EventBack_L1 l n acc ((k + 1 : Nat) : Int) := by
  conv => lhs; unfold law42_EventBack_L1
  have h1 : (Option.bind (idx l (k : Int)) fun (y109 : GEvent) =>
      Option.bind (event_Right y109) fun (y111 : Bool) =>
      if y111 = true then
        Option.bind (idx l (k : Int)) fun (y114 : GEvent) =>
        Option.bind (ref42_Small y114) fun (y116 : Bool) =>
        some y116
      else
        some false : Option Bool) = some (rightS l[k] && decide (smallE l[k])) := by
    rw [idx_lt hlt, obs, event_Right_eq, obs, obs, ref42_Small_eq, obs]
    cases rightS l[k] <;> rfl
  rw [if_pos (by rw [decide_eq_true_eq]; omega), h1, hg, ob_some, if_neg (by simp), go_nx, w64_succ hlt (by omega)]
theorem back_add {l acc : List GEvent} {n k : Nat} (hlt : k < l.length) (hl : l.length ≤ 1000) (ha : acc.length ≤ k) (hg : goodE l[k]) : law42_EventBack_L1 l (n + 1) acc (k : Int) = law42_EventBack_L1 l n (acc ++ [l[k]]) ((k + 1 : Nat) : Int) := by
  conv => lhs; unfold law42_EventBack_L1
  have h1 : (Option.bind (idx l (k : Int)) fun (y109 : GEvent) =>
      Option.bind (event_Right y109) fun (y111 : Bool) =>
      if y111 = true then
        Option.bind (idx l (k : Int)) fun (y114 : GEvent) =>
        Option.bind (ref42_Small y114) fun (y116 : Bool) =>
        some y116
      else
        some false : Option Bool) = some true := by
    rw [idx_lt hlt, obs, event_Right_eq, obs, obs, ref42_Small_eq, obs, hg.1, if_pos rfl, decide_eq_true hg.2.1]
  have h2 := tx_len hg.2.2
  have h3 : (if (!((readS (tx l[k])).2)) = true then some true else Option.bind (some l[k]) fun (y143 : GEvent) => some (!(bGEvent (readS (tx l[k])).1 y143)) : Option Bool) = some false := by
    rw [read_back hg.1 hg.2.1, if_neg (by simp), obs, bG_self]; rfl
  rw [if_pos (by rw [decide_eq_true_eq]; omega), h1, ob_some, if_pos rfl, idx_lt hlt, ob_some, room_88 (by simp; omega), ob_some, ob_some, event_Text_eq hg.2.2, ob_some, event_Read_eq (by omega), ob_some, h3, ob_some, if_neg (by simp), go_nx, w64_succ hlt (by omega)]
theorem back_L {l : List GEvent} (hl : l.length ≤ 1000) (hgo : ∀ e ∈ l, goodGEvent e) : ∀ (n k : Nat) (acc : List GEvent), n + k = l.length + 1 → k ≤ l.length → acc.length ≤ k → (∀ e ∈ acc, goodE e) →
    ∃ g, law42_EventBack_L1 l n acc (k : Int) = some (.next g) ∧ g.length ≤ l.length ∧ ∀ e ∈ g, goodE e
  | 0, k, acc, h, hk, _, _ => by omega
  | n + 1, k, acc, h, hk, ha, hg => by
    by_cases hlt : k < l.length
    · cases hc : (rightS l[k] && decide (smallE l[k])) with
      | false =>
        rw [back_skip hlt hl hc]
        exact back_L hl hgo n (k + 1) acc (by omega) (by omega) (by omega) hg
      | true =>
        rw [Bool.and_eq_true, decide_eq_true_eq] at hc
        have he : goodE l[k] := ⟨hc.1, hc.2, ev_in (hgo _ (List.getElem_mem hlt)) hc.1⟩
        rw [back_add hlt hl ha he]
        exact back_L hl hgo n (k + 1) (acc ++ [l[k]]) (by omega) (by omega) (by simp; omega) (fun e h => by
          rcases List.mem_append.1 h with h | h
          · exact hg e h
          · rw [List.mem_singleton.1 h]; exact he)
    · refine ⟨acc, ?_, by omega, hg⟩
      unfold law42_EventBack_L1
      rw [if_neg (by rw [decide_eq_true_eq]; omega)]
theorem law42_EventBack_true {a0 : List GEvent} {a1 : List UInt8} (h0 : listok (fun y => goodGEvent y) a0) (_ : strok a1) : law42_EventBack a0 a1 = some true := by
  unfold law42_EventBack
  rw [awake42]
  by_cases g0 : (a0.length : Int) > 100
  · rw [if_pos (by simpa using g0), obs, if_pos rfl, obs]
  · rw [if_neg (by simpa using g0), obs]
    by_cases g1 : (a1.length : Int) > 200
    · rw [if_pos (by simpa using g1), obs]
    · rw [if_neg (by simpa using g1), show ((((a0.length : Int) : Int) - (0)).toNat + 1) = a0.length + 1 by omega]
      obtain ⟨g, hL, hgl, hg⟩ := back_L (l := a0) (by omega) h0.2 (a0.length + 1) 0 [] (by omega) (by omega) (by simp) (by simp)
      have hL' : law42_EventBack_L1 a0 (a0.length + 1) [] 0 = some (.next g) := hL
      rw [hL', obs]
      have hall := event_All_eq (l := g) (by omega) (fun e he => (hg e he).2.2)
      have hlen := allS_len (l := g) (fun e he => (hg e he).2.2)
      have hlen2 : g.length * 10011 ≤ 99 * 10011 + 10011 := by
        have : g.length ≤ 100 := by omega
        omega
      have hlines : event_Lines (allS g) = some (g, -1) := by
        rw [event_Lines_eq (s := allS g) (by omega), spl_all hg, lin_all hg]; rfl
      have hx : (if (readS a1).2 = true then
          Option.bind (event_Text (readS a1).1) fun (y168 : (List UInt8)) =>
          if (!(y168 == a1)) = true then
            some true
          else
            Option.bind (event_Right (readS a1).1) fun (y171 : Bool) =>
            if (!y171) = true then
              some true
            else
              if (!((readS a1).2)) = true then
                some (!(bGEvent (readS a1).1 ({ fKind := 0, fWho := 0, fObj := 0, fName := [], fV := zGVal, fOwn := (⟨0, 0, 0, 0⟩ : A4 Int) } : GEvent)))
              else
                some false
        else
          if (!((readS a1).2)) = true then
            some (!(bGEvent (readS a1).1 ({ fKind := 0, fWho := 0, fObj := 0, fName := [], fV := zGVal, fOwn := (⟨0, 0, 0, 0⟩ : A4 Int) } : GEvent)))
          else
            some false : Option Bool) = some false := by
        rcases readS_spec a1 with ⟨r1, c, r2, r3, r4⟩ | ⟨r1, r2⟩
        · obtain ⟨c1, c2⟩ := hit_right r3
          rw [r1, if_pos rfl, r2, event_Text_eq (r4 (by omega)), obs, c2, if_neg (by simp), event_Right_eq, obs, c1, if_neg (by simp), if_neg (by simp)]
        · rw [r1, if_neg (by simp), if_pos (by simp), r2, bG_self]; rfl
      show Option.bind (event_All g) _ = _
      rw [hall, obs, hlines, obs, event_Read_eq (by omega), obs, hx, obs, if_neg (by simp), if_pos (by simp), same_self g (by omega), obs, if_pos rfl, obs]


end Go.Proofs.YtccladleehbmhaaDoor
