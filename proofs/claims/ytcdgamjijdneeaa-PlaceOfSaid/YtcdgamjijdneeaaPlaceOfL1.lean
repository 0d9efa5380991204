/- A part of the proof that the law PlaceOf gives true for every input. -/
import Derived.Test.YtcdgamjijdneeaaAbsW
import Derived.Test.YtcdgamjijdneeaaPlaceOfT
import Derived.Test.YtcdgamjijdneeaaPlaceOfD
/- The plain law. -/
namespace Go.Proofs.Ytcdgamjijdneeaa
open Go.RowKit Go.Abs
/-! ### Places of bytes. -/
def stp (s : Nat × Nat) (c : UInt8) : Nat × Nat := if c == 10 then (s.1 + 1, 1) else (s.1, s.2 + 1)
/-- Line and column behind the first `i` bytes. -/
def at_ (t : List UInt8) (i : Nat) : Nat × Nat := (t.take i).foldl stp (1, 1)
theorem at_zero (t : List UInt8) : at_ t 0 = (1, 1) := rfl
theorem at_succ {t : List UInt8} {i : Nat} (h : i < t.length) : at_ t (i + 1) = stp (at_ t i) t[i] := by
  unfold at_
  rw [List.take_add_one, List.getElem?_eq_getElem h, List.foldl_append]
  rfl
theorem u8_ten (c : UInt8) : (((c.toNat : Nat) : Int) == 10) = (c == 10) := by
  by_cases h : c = 10
  · subst h; rfl
  · have h2 : ¬ c.toNat = 10 := fun e => h (UInt8.toNat_inj.1 (by rw [e]; rfl))
    have h3 : ¬ ((c.toNat : Nat) : Int) = 10 := by omega
    rw [beq_eq_false_iff_ne.2 h3, beq_eq_false_iff_ne.2 h]
theorem stp_le (s : Nat × Nat) (c : UInt8) : (stp s c).1 ≤ s.1 + 1 ∧ (stp s c).2 ≤ s.2 + 1 ∧ s.1 ≤ (stp s c).1 ∧ 1 ≤ (stp s c).2 := by
  unfold stp; split <;> (try dsimp only) <;> omega
theorem at_bd (t : List UInt8) : ∀ i, i ≤ t.length → 1 ≤ (at_ t i).1 ∧ 1 ≤ (at_ t i).2 ∧ (at_ t i).1 ≤ i + 1 ∧ (at_ t i).2 ≤ i + 1
  | 0, _ => by rw [at_zero]; simp
  | i + 1, h => by
    obtain ⟨h1, h2, h3, h4⟩ := at_bd t i (by omega)
    rw [at_succ (by omega)]
    obtain ⟨k1, k2, k3, k4⟩ := stp_le (at_ t i) t[i]
    omega

theorem ref_Of_L {t : List UInt8} (ht : t.length ≤ 1000000) (a : Int) : ∀ (n k : Nat), n + k = t.length + 1 → k ≤ t.length → (k : Int) ≤ max a 0 →
    ref01_Of_L1 t a n ((at_ t k).1 : Int) ((at_ t k).2 : Int) (k : Int) = some (((at_ t (min t.length a.toNat)).1 : Int), ((at_ t (min t.length a.toNat)).2 : Int))
  | 0, k, h, hk, _ => by omega
  | n + 1, k, h, hk, ha => by
    simp only [ref01_Of_L1]
    have hb := at_bd t k hk
    by_cases hlt : k < t.length
    · rw [if_pos (by simpa using hlt)]
      simp only [obs]
      by_cases hka : (k : Int) < a
      · rw [if_pos (by simpa using hka), idx_lt hlt]
        simp only [obs, u8_ten]
        rw [w64_succ hlt (by omega)]
        have hs := at_succ hlt
        have ih := ref_Of_L ht a n (k + 1) (by omega) (by omega) (by omega)
        rw [hs] at ih
        unfold stp at ih
        by_cases hc : (t[k] == 10) = true
        · rw [if_pos hc]
          rw [if_pos hc] at ih
          simp only [obs]
          rw [w64 (by omega) (by omega)]
          simpa using ih
        · rw [if_neg hc]
          rw [if_neg hc] at ih
          simp only [obs]
          rw [w64 (by omega) (by omega)]
          simpa using ih
      · rw [if_neg (by simpa using hka)]
        have : min t.length a.toNat = k := by omega
        rw [this]
    · rw [if_neg (by simpa using hlt)]
      simp only [obs, Bool.false_eq_true, if_false]
      have : min t.length a.toNat = k := by omega
      rw [this]
theorem ref_Of_eq {t : List UInt8} (ht : t.length ≤ 1000000) (a : Int) : ref01_Of t a = some (((at_ t (min t.length a.toNat)).1 : Int), ((at_ t (min t.length a.toNat)).2 : Int)) := by
  unfold ref01_Of
  have h := ref_Of_L ht a (t.length + 1) 0 (by omega) (by omega) (by omega)
  rw [at_zero] at h
  rw [show (0 : Int) = ((0 : Nat) : Int) from rfl]
  rw [show (1 : Int) = ((1 : Nat) : Int) from rfl, h]
  rfl

theorem at_fst (t : List UInt8) : ∀ i, i ≤ t.length → (at_ t i).1 = (t.take i).count 10 + 1
  | 0, _ => by simp [at_zero]
  | i + 1, h => by
    rw [at_succ (by omega), List.take_add_one, List.getElem?_eq_getElem (by omega), List.count_append]
    have := at_fst t i (by omega)
    unfold stp
    by_cases hc : (t[i] == 10) = true
    · rw [if_pos hc]
      have hc' : t[i] = 10 := by simpa using hc
      simp [this, hc']
    · rw [if_neg hc]
      have hc' : ¬ t[i] = 10 := by simpa using hc
      simp [this, hc', List.count_singleton]
/-- The last byte 10 of the first `m`, or -1. -/
def lastT (t : List UInt8) : Nat → Int
  | 0 => -1
  | m + 1 => if t[m]? = some 10 then (m : Int) else lastT t m
theorem at_snd (t : List UInt8) : ∀ i, i ≤ t.length → ((at_ t i).2 : Int) = (i : Int) - lastT t i
  | 0, _ => by simp [at_zero, lastT]
  | i + 1, h => by
    rw [at_succ (by omega)]
    have := at_snd t i (by omega)
    unfold stp
    simp only [lastT, List.getElem?_eq_getElem (show i < t.length by omega), Option.some.injEq]
    by_cases hc : t[i] = 10
    · rw [if_pos (by simpa using hc), if_pos hc]; simp; omega
    · rw [if_neg (by simpa using hc), if_neg hc]; simp; omega
theorem lastT_take {t : List UInt8} {i : Nat} : ∀ m, m ≤ i → lastT (t.take i) m = lastT t m
  | 0, _ => rfl
  | m + 1, h => by
    simp only [lastT, List.getElem?_take, if_pos (show m < i by omega), lastT_take (t := t) (i := i) m (by omega)]
theorem lastT_ge (t : List UInt8) : ∀ m, -1 ≤ lastT t m ∧ lastT t m < m
  | 0 => by simp [lastT]
  | m + 1 => by
    have := lastT_ge t m
    simp only [lastT]
    split <;> omega
theorem lastIdx_L {t : List UInt8} (ht : t.length ≤ 1000000) : ∀ (m n : Nat), m + 1 ≤ n → m ≤ t.length →
    ∃ r, internal_bytealg_LastIndexByteString_L1 t 10 n ((m : Int) - 1) = some r ∧ Ctl.elim r (fun v => v) (fun _ => -1) = lastT t m
  | m, 0, h, _ => by omega
  | 0, n + 1, _, _ => by
    simp only [internal_bytealg_LastIndexByteString_L1]
    rw [if_neg (by simp)]
    exact ⟨_, rfl, rfl⟩
  | m + 1, n + 1, h, hm => by
    simp only [internal_bytealg_LastIndexByteString_L1]
    have hlt : m < t.length := by omega
    rw [show (((m + 1 : Nat) : Int) - 1) = (m : Int) by omega, if_pos (by simp), idx_lt hlt]
    simp only [obs, u8_ten, lastT, List.getElem?_eq_getElem hlt, Option.some.injEq]
    by_cases hc : t[m] = 10
    · rw [if_pos (by simpa using hc), if_pos hc]
      exact ⟨_, rfl, rfl⟩
    · rw [if_neg (by simpa using hc), if_neg hc, w64 (by omega) (by omega)]
      exact lastIdx_L ht m n (by omega) (by omega)
theorem lastIdx_eq {t : List UInt8} (ht : t.length ≤ 1000000) : strings_LastIndexByte t 10 = some (lastT t t.length) := by
  unfold strings_LastIndexByte internal_bytealg_LastIndexByteString
  rw [w64 (by omega) (by omega)]
  obtain ⟨r, h1, h2⟩ := lastIdx_L ht t.length ((((t.length : Int) - 1 : Int) - (0)).toNat + 2) (by omega) (Nat.le_refl _)
  rw [h1]
  cases r <;> simpa [obs, Ctl.elim] using h2
theorem count_eq (t : List UInt8) : strings_Count t [10] = some ((t.count 10 : Nat) : Int) := rfl
theorem place_Of_eq {t : List UInt8} (ht : t.length ≤ 1000000) (a : Int) : place_Of t a = some (((at_ t (min t.length a.toNat)).1 : Int), ((at_ t (min t.length a.toNat)).2 : Int)) := by
  unfold place_Of
  obtain ⟨m, hm, hml⟩ : ∃ m : Nat, (if (if (t.length : Int) < a then (t.length : Int) else a) > 0 then (if (t.length : Int) < a then (t.length : Int) else a) else 0) = (m : Int) ∧ m = min t.length a.toNat := by
    refine ⟨min t.length a.toNat, ?_, rfl⟩
    split <;> split <;> omega
  have hle : m ≤ t.length := by omega
  rw [hm, ← hml]
  have hcut : cutL t 0 (m : Int) = some (t.take m) := by
    unfold cutL
    rw [if_pos ⟨Int.le_refl _, by omega, by omega⟩]
    simp
  have hlen : (t.take m).length = m := by simp; omega
  rw [hcut]
  simp only [obs]
  rw [count_eq, lastIdx_eq (by rw [hlen]; omega), hlen, lastT_take m (Nat.le_refl _)]
  simp only [obs]
  have h1 := at_fst t m hle
  have h2 := at_snd t m hle
  have h3 := lastT_ge t m
  have h4 := at_bd t m hle
  rw [w64 (by omega) (by omega), w64 (by omega) (by omega), h1, ← h2]
  simp
/-! ### The lines. -/
structure RowOk (t : List UInt8) (n : Nat) (row : Gline_place) (f e : Nat) : Prop where
  hn : row.fn = (n : Int)
  hf : row.ffrom = (f : Int)
  he : row.fto = (e : Int)
  le : f ≤ e
  el : e ≤ t.length
  pl : ∀ i, f ≤ i → i ≤ e → at_ t i = (n, i - f + 1)
  no : ∀ i, f ≤ i → i < e → t[i]? ≠ some 10
theorem lines_ok {t : List UInt8} : ∀ (r p : List UInt8) (n f : Nat), t = p ++ r → f ≤ p.length → (∀ i, f ≤ i → i ≤ p.length → at_ t i = (n, i - f + 1)) → (∀ i, f ≤ i → i < p.length → t[i]? ≠ some 10) →
    (linesF r n f p.length).length = r.count 10 + 1 ∧ (∀ j row, (linesF r n f p.length)[j]? = some row → ∃ f' e', RowOk t (n + j) row f' e' ∧ f ≤ f') ∧ ∀ i, f ≤ i → i ≤ t.length → ∃ (j : Nat) (row : Gline_place) (f' e' : Nat), (linesF r n f p.length)[j]? = some row ∧ RowOk t (n + j) row f' e' ∧ f' ≤ i ∧ i ≤ e'
  | [], p, n, f, ht, hf, hpl, hno => by
    simp only [linesF]
    have hl : t.length = p.length := by rw [ht]; simp
    have hok : RowOk t n { fn := (n : Int), ffrom := (f : Int), fto := (p.length : Int) } f p.length := ⟨rfl, rfl, rfl, hf, by omega, hpl, hno⟩
    refine ⟨by simp, fun j row hj => ?_, fun i h1 h2 => ⟨0, _, f, p.length, rfl, hok, h1, by omega⟩⟩
    have hj0 : j = 0 := by have := (List.getElem?_eq_some_iff.1 hj).1; simp at this; omega
    subst hj0
    simp at hj; subst hj
    exact ⟨f, p.length, hok, Nat.le_refl _⟩
  | c :: r, p, n, f, ht, hf, hpl, hno => by
    have hpl2 : (p ++ [c]).length = p.length + 1 := by simp
    have ht2 : t = (p ++ [c]) ++ r := by rw [ht]; simp
    have hlt : p.length < t.length := by rw [ht]; simp
    have hget : t[p.length] = c := by simp [ht]
    simp only [linesF]
    by_cases hc : (c == 10) = true
    · have hc' : c = 10 := by simpa using hc
      rw [if_pos hc]
      have hat : at_ t (p.length + 1) = (n + 1, 1) := by
        rw [at_succ hlt, hpl p.length hf (Nat.le_refl _), hget]
        unfold stp; rw [if_pos hc]
      obtain ⟨k1, k2, k3⟩ := lines_ok r (p ++ [c]) (n + 1) (p.length + 1) ht2 (by omega) (fun i h1 h2 => by
        have : i = p.length + 1 := by omega
        subst this; rw [hat]; simp) (fun i h1 h2 => by omega)
      rw [hpl2] at k1 k2 k3
      have hok : RowOk t n { fn := (n : Int), ffrom := (f : Int), fto := (p.length : Int) } f p.length := ⟨rfl, rfl, rfl, hf, by omega, hpl, hno⟩
      refine ⟨by rw [hc']; simp [k1], fun j row hj => ?_, fun i h1 h2 => ?_⟩
      · cases j with
        | zero => simp at hj; subst hj; exact ⟨f, p.length, hok, Nat.le_refl _⟩
        | succ j =>
          obtain ⟨f', e', q1, q2⟩ := k2 j row (by simpa using hj)
          exact ⟨f', e', by rw [show n + (j + 1) = n + 1 + j by omega]; exact q1, by omega⟩
      · by_cases hi : i ≤ p.length
        · exact ⟨0, _, f, p.length, rfl, hok, h1, hi⟩
        · obtain ⟨j, row, f', e', q1, q2, q3, q4⟩ := k3 i (by omega) h2
          exact ⟨j + 1, row, f', e', by simpa using q1, by rw [show n + (j + 1) = n + 1 + j by omega]; exact q2, q3, q4⟩
    · have hc' : ¬ c = 10 := by simpa using hc
      rw [if_neg hc]
      have hat : at_ t (p.length + 1) = (n, p.length + 1 - f + 1) := by
        rw [at_succ hlt, hpl p.length hf (Nat.le_refl _), hget]
        unfold stp; rw [if_neg hc]
        simp only [Prod.mk.injEq, true_and]; omega
      have := lines_ok r (p ++ [c]) n f ht2 (by omega) (fun i h1 h2 => by
        rcases Nat.lt_or_ge i (p.length + 1) with h | h
        · exact hpl i h1 (by omega)
        · have : i = p.length + 1 := by omega
          subst this; exact hat) (fun i h1 h2 => by
        rcases Nat.lt_or_ge i p.length with h | h
        · exact hno i h1 h
        · have : i = p.length := by omega
          subst this
          rw [List.getElem?_eq_getElem hlt, hget]
          simpa using hc')
      rw [hpl2] at this
      rw [List.count_cons_of_ne (by simpa using hc')]
      exact this
/-- The lines of a text. -/
theorem rows_ok (t : List UInt8) : (linesF t 1 0 0).length = t.count 10 + 1 ∧ (∀ j row, (linesF t 1 0 0)[j]? = some row → ∃ f e, RowOk t (j + 1) row f e) ∧ ∀ i, i ≤ t.length → ∃ (j : Nat) (row : Gline_place) (f e : Nat), (linesF t 1 0 0)[j]? = some row ∧ RowOk t (j + 1) row f e ∧ f ≤ i ∧ i ≤ e := by
  obtain ⟨h1, h2, h3⟩ := lines_ok (t := t) t [] 1 0 rfl (Nat.le_refl _) (fun i h1 h2 => by
    have : i = 0 := by simpa using h2
    subst this; rfl) (fun i h1 h2 => by simp at h2)
  simp only [List.length_nil] at h1 h2 h3
  refine ⟨h1, fun j row hj => ?_, fun i hi => ?_⟩
  · obtain ⟨f, e, q, _⟩ := h2 j row hj
    exact ⟨f, e, by rw [Nat.add_comm]; exact q⟩
  · obtain ⟨j, row, f, e, q1, q2, q3, q4⟩ := h3 i (Nat.zero_le _) hi
    exact ⟨j, row, f, e, q1, by rw [Nat.add_comm]; exact q2, q3, q4⟩
theorem find_runs (m : Int) : ∀ (l : List Gline_place), (∃ row ∈ l, row.fn = m ∧ runs (place_find_B1 m) l () = some (.stop row)) ∨ ((∀ row ∈ l, row.fn ≠ m) ∧ runs (place_find_B1 m) l () = some (.next ()))
  | [] => .inr ⟨by simp, rfl⟩
  | row :: l => by
    simp only [runs, place_find_B1]
    by_cases hc : (row.fn == m) = true
    · rw [if_pos hc]
      exact .inl ⟨row, by simp, by simpa using hc, rfl⟩
    · rw [if_neg hc]
      rcases find_runs m l with ⟨r, h1, h2, h3⟩ | ⟨h1, h2⟩
      · exact .inl ⟨r, by simp [h1], h2, h3⟩
      · exact .inr ⟨fun r hr => by
          rcases List.mem_cons.1 hr with rfl | hr
          · simpa using hc
          · exact h1 r hr, h2⟩
/-- The line of a number: there, or none. -/
theorem place_find_eq {t : List UInt8} (ht : t.length ≤ 1000000) (m : Int) : (∃ (j : Nat) (row : Gline_place) (f e : Nat), (linesF t 1 0 0)[j]? = some row ∧ RowOk t (j + 1) row f e ∧ m = ((j + 1 : Nat) : Int) ∧ place_find t m = some (row, true)) ∨
    ((m < 1 ∨ ((t.count 10 + 1 : Nat) : Int) < m) ∧ place_find t m = some (({ fn := 0, ffrom := 0, fto := 0 } : Gline_place), false)) := by
  obtain ⟨h1, h2, _⟩ := rows_ok t
  unfold place_find place_lines itR_lines
  simp only [obs]
  rw [if_pos (by omega)]
  simp only [obs]
  rcases find_runs m (linesF t 1 0 0) with ⟨row, k1, k2, k3⟩ | ⟨k1, k2⟩
  · obtain ⟨j, hj⟩ := List.getElem?_of_mem k1
    obtain ⟨f, e, q⟩ := h2 j row hj
    exact .inl ⟨j, row, f, e, hj, q, by rw [← k2, q.hn], by rw [k3]; rfl⟩
  · refine .inr ⟨?_, by rw [k2]; rfl⟩
    rcases Int.lt_or_le m 1 with h | h
    · exact .inl h
    · right
      rcases Int.lt_or_le ((t.count 10 + 1 : Nat) : Int) m with h3 | h3
      · exact h3
      · exfalso
        have hj : m.toNat - 1 < (linesF t 1 0 0).length := by rw [h1]; omega
        obtain ⟨f, e, q⟩ := h2 (m.toNat - 1) _ (List.getElem?_eq_getElem hj)
        refine k1 _ (List.getElem_mem hj) ?_
        rw [q.hn]; omega
theorem at_inj {t : List UInt8} {i j : Nat} (hi : i ≤ t.length) (hj : j ≤ t.length) (h : at_ t i = at_ t j) : i = j := by
  obtain ⟨_, _, h3⟩ := rows_ok t
  obtain ⟨a, ra, fa, ea, a1, a2, a3, a4⟩ := h3 i hi
  obtain ⟨b, rb, fb, eb, b1, b2, b3, b4⟩ := h3 j hj
  rw [a2.pl i a3 a4, b2.pl j b3 b4] at h
  have hab : a = b := by have := congrArg Prod.fst h; simp at this; exact this
  subst hab
  rw [a1] at b1; cases b1
  have hf : fa = fb := by have := a2.hf.symm.trans b2.hf; omega
  have := congrArg Prod.snd h
  simp at this; omega

/-- The byte of a place. -/
theorem place_Back_eq {t : List UInt8} (ht : t.length ≤ 1000000) (l c : Int) (hcb : c ≤ 9223372036854775807) : (∃ i, i ≤ t.length ∧ ((at_ t i).1 : Int) = l ∧ ((at_ t i).2 : Int) = c ∧ place_Back t l c = some ((i : Int), true)) ∨
    ((∀ i, i ≤ t.length → ¬ (((at_ t i).1 : Int) = l ∧ ((at_ t i).2 : Int) = c)) ∧ place_Back t l c = some (0, false)) := by
  obtain ⟨_, _, h3⟩ := rows_ok t
  unfold place_Back
  rcases place_find_eq ht l with ⟨j, row, f, e, k1, k2, k3, k4⟩ | ⟨k1, k2⟩
  · rw [k4]
    simp only [obs, Bool.not_true, Bool.false_eq_true, if_false, k2.hf, k2.he]
    have hle := k2.le
    have hel := k2.el
    by_cases hc : c < 1
    · rw [if_pos (by simpa using hc)]
      refine .inr ⟨fun i hi ⟨q1, q2⟩ => ?_, rfl⟩
      have := at_bd t i hi; omega
    · rw [if_neg (by simpa using hc)]
      by_cases hbig : c - 1 > (e : Int) - f
      · right
        refine ⟨fun i hi ⟨q1, q2⟩ => ?_, ?_⟩
        · obtain ⟨b, rb, fb, eb, b1, b2, b3, b4⟩ := h3 i hi
          rw [b2.pl i b3 b4] at q1 q2
          have hjb : b = j := by simp only at q1; omega
          subst hjb
          rw [k1] at b1; cases b1
          have hf := b2.hf.symm.trans k2.hf
          have he := b2.he.symm.trans k2.he
          simp only at q2; omega
        · have hd : decide (w_i64 (c - 1) > w_i64 ((e : Int) - f)) = true := by
            rw [w64 (n := (e : Int) - f) (by omega) (by omega), w64 (by omega) (by omega)]
            exact decide_eq_true hbig
          rw [hd]; rfl
      · have hw : w_i64 (c - 1) = c - 1 := w64 (by omega) (by omega)
        have hw2 : w_i64 ((e : Int) - f) = (e : Int) - f := w64 (by omega) (by omega)
        rw [hw, hw2, decide_eq_false hbig]
        simp only [obs, Bool.false_eq_true, if_false]
        rw [w64 (n := (f : Int) + c) (by omega) (by omega), w64 (by omega) (by omega)]
        refine .inl ⟨f + (c - 1).toNat, by omega, ?_, ?_, by congr 2; omega⟩
        · rw [k2.pl _ (by omega) (by omega), k3]
        · rw [k2.pl _ (by omega) (by omega)]; simp only; omega
  · rw [k2]
    refine .inr ⟨fun i hi ⟨q1, q2⟩ => ?_, rfl⟩
    have hfst := at_fst t i hi
    have hcnt : (t.take i).count 10 ≤ t.count 10 := List.Sublist.count_le _ (List.take_sublist i t)
    omega

theorem ref_Back_L {t : List UInt8} (ht : t.length ≤ 1000000) (l c : Int) : ∀ (n k : Nat), n + k = t.length + 2 → k ≤ t.length + 1 →
    (∃ i, k ≤ i ∧ i ≤ t.length ∧ ((at_ t i).1 : Int) = l ∧ ((at_ t i).2 : Int) = c ∧ ref01_Back_L1 t l c n (k : Int) = some (.stop ((i : Int), true))) ∨
    ((∀ i, k ≤ i → i ≤ t.length → ¬ (((at_ t i).1 : Int) = l ∧ ((at_ t i).2 : Int) = c)) ∧ ref01_Back_L1 t l c n (k : Int) = some (.next ()))
  | 0, k, h, hk => by omega
  | n + 1, k, h, hk => by
    simp only [ref01_Back_L1]
    by_cases hlt : k ≤ t.length
    · rw [if_pos (by simpa using hlt), ref_Of_eq ht]
      have hm : min t.length (k : Int).toNat = k := by omega
      simp only [obs, hm]
      have hw : w_i64 ((k : Int) + 1) = ((k + 1 : Nat) : Int) := by rw [w64 (by omega) (by omega)]; omega
      rw [hw]
      by_cases h1 : ((at_ t k).1 : Int) = l
      · rw [if_pos (by simpa using h1)]
        simp only [obs]
        by_cases h2 : ((at_ t k).2 : Int) = c
        · rw [if_pos (by simpa using h2)]
          exact .inl ⟨k, Nat.le_refl _, hlt, h1, h2, rfl⟩
        · rw [if_neg (by simpa using h2)]
          rcases ref_Back_L ht l c n (k + 1) (by omega) (by omega) with ⟨i, q1, q2, q3, q4, q5⟩ | ⟨q1, q2⟩
          · exact .inl ⟨i, by omega, q2, q3, q4, q5⟩
          · refine .inr ⟨fun i hi hl => ?_, q2⟩
            rcases Nat.eq_or_lt_of_le hi with e | e
            · subst e; exact fun q => h2 q.2
            · exact q1 i e hl
      · rw [if_neg (by simpa using h1)]
        simp only [obs, Bool.false_eq_true, if_false]
        rcases ref_Back_L ht l c n (k + 1) (by omega) (by omega) with ⟨i, q1, q2, q3, q4, q5⟩ | ⟨q1, q2⟩
        · exact .inl ⟨i, by omega, q2, q3, q4, q5⟩
        · refine .inr ⟨fun i hi hl => ?_, q2⟩
          rcases Nat.eq_or_lt_of_le hi with e | e
          · subst e; exact fun q => h1 q.1
          · exact q1 i e hl
    · rw [if_neg (by simpa using hlt)]
      exact .inr ⟨fun i hi hl => by omega, rfl⟩
theorem back_same {t : List UInt8} (ht : t.length ≤ 1000000) (l c : Int) (hcb : c ≤ 9223372036854775807) : ∃ r, place_Back t l c = some r ∧ ref01_Back t l c = some r := by
  unfold ref01_Back
  have h := ref_Back_L ht l c (t.length + 2) 0 (by omega) (by omega)
  rw [show (0 : Int) = ((0 : Nat) : Int) from rfl]
  rcases place_Back_eq ht l c hcb with ⟨i, h1, h2, h3, h4⟩ | ⟨h1, h4⟩
  · refine ⟨_, h4, ?_⟩
    rcases h with ⟨j, q1, q2, q3, q4, q5⟩ | ⟨q1, _⟩
    · rw [q5]
      have : j = i := at_inj q2 h1 (by
        have e1 : (at_ t j).1 = (at_ t i).1 := by omega
        have e2 : (at_ t j).2 = (at_ t i).2 := by omega
        exact Prod.ext e1 e2)
      subst this; rfl
    · exact absurd ⟨h2, h3⟩ (q1 i (Nat.zero_le _) h1)
  · refine ⟨_, h4, ?_⟩
    rcases h with ⟨j, q1, q2, q3, q4, q5⟩ | ⟨_, q2⟩
    · exact absurd ⟨q3, q4⟩ (h1 j q2)
    · rw [q2]; rfl
theorem law01_PlaceOf_true {a0 : List UInt8} {a1 : Int} {a2 : A2 Int} (_h0 : strok a0) (_h1 : i64ok a1) (h2 : i64ok a2.a0 ∧ i64ok a2.a1) : law01_PlaceOf a0 a1 a2 = some true := by
  have haw : law01_awake = some true := by decide +kernel
  unfold law01_PlaceOf
  by_cases hb : (decide ((a0.length : Int) > 300)) = true
  · rw [if_pos hb, haw]; rfl
  · rw [if_neg hb]
    have hl : a0.length ≤ 1000000 := by simp at hb; omega
    obtain ⟨r, h3, h4⟩ := back_same hl a2.a0 a2.a1 h2.2.2
    rw [place_Of_eq hl, ref_Of_eq hl, h3, h4]
    simp only [obs, beq_self_eq_true, if_true, haw]

end Go.Proofs.Ytcdgamjijdneeaa
