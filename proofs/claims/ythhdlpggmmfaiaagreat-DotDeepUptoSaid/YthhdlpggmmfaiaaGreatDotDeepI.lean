/- A part of the proof that the law DotDeep gives true for every input. -/
import Derived.Test.YthhdlpggmmfaiaaGreatDotDeepT
/- What the iterators yield. -/
namespace Go.Proofs.YthhdlpggmmfaiaaGreat
open Go.RowKit Go.Abs








































theorem itR_up_L {p : List GClass} {rows : List Int} {sp : Nat} (hp : p.length < 9223372036854775806) : ∀ (n : Nat) (name : List UInt8) (k i fuel : Nat) (rest : List Int), itR_up_n p n name = some rest → rows.drop k = rest → k ≤ rows.length → k ≤ sp → i + n = p.length + 1 → n < fuel →
  ∃ r, above_up_1_L1 p sp rows fuel k name (i : Int) = some r ∧ Ctl.elim r (fun v => v) (fun v => v) = min (sp + 1) rows.length
 | n, name, k, i, 0, rest, _, _, _, _, _, hf => by omega
 | 0, name, k, i, fuel + 1, rest, h, hd, hk, hks, hi, _ => by
  simp only [itR_up_n, Option.some.injEq] at h
  subst h
  have hw : w_i64 ((p.length : Int) + 1) = (p.length : Int) + 1 := w64 (by omega) (by omega)
  have hlen : rows.length ≤ k := by have := congrArg List.length hd; simp at this; omega
  refine ⟨.next k, ?_, ?_⟩
  ·simp only [above_up_1_L1, hw]
   rw [if_neg (by simp; omega)]
  ·show k = _
   omega
 | n + 1, name, k, i, fuel + 1, rest, h, hd, hk, hks, hi, hf => by
  simp only [itR_up_n] at h
  obtain ⟨f, hF, h⟩ := bind_some h
  have hw : w_i64 ((p.length : Int) + 1) = (p.length : Int) + 1 := w64 (by omega) (by omega)
  have hw2 : w_i64 ((i : Int) + 1) = ((i + 1 : Nat) : Int) := by rw [w64 (by omega) (by omega)]; omega
  simp only [above_up_1_L1, hw, hF, obs]
  rw [if_pos (by simp; omega)]
  by_cases hneg : f < 0
  ·rw [if_pos hneg] at h
   cases h
   have hlen : rows.length ≤ k := by have := congrArg List.length hd; simp at this; omega
   refine ⟨.stop k, by simp [hneg], ?_⟩
   show k = _
   omega
  ·rw [if_neg hneg] at h
   obtain ⟨c, hc, h⟩ := bind_some h
   have hrow : ∀ l, rest = f :: l → rows[k]? = some f ∧ rows.drop (k + 1) = l := by
    intro l hl
    rw [hl] at hd
    have h1 := congrArg (fun z => z[0]?) hd
    have h2 := congrArg (fun z => z.drop 1) hd
    simp at h1 h2
    exact ⟨h1, by rw [← h2]⟩
   have key : ∀ l, rest = f :: l → (∃ r, (if (k == sp) = true then some (.stop (k + 1)) else Option.bind (idx p f) fun (y58 : GClass) => if (y58.fSuper == []) = true then some (.stop (k + 1)) else above_up_1_L1 p sp rows fuel (k + 1) y58.fSuper (w_i64 ((i : Int) + 1))) = some r ∧ Ctl.elim r (fun v => v) (fun v => v) = min (sp + 1) rows.length) →
     ∃ r, (Option.bind (if (decide (f < 0)) = true then some (k, true) else Option.bind (yck rows sp k f) fun (_ : Unit) => some ((k + 1), (!(!(k == sp)))) : Option (Nat × Bool)) fun x => match x with
      | (x51, x52) => if x52 = true then some (.stop x51) else Option.bind (idx p f) fun (y58 : GClass) => if (y58.fSuper == []) = true then some (.stop x51) else above_up_1_L1 p sp rows fuel x51 y58.fSuper (w_i64 ((i : Int) + 1))) = some r ∧ Ctl.elim r (fun v => v) (fun v => v) = min (sp + 1) rows.length := by
    intro l hl hr
    rw [if_neg (by simpa using hneg), yck_ok (hrow l hl).1 hks]
    simpa only [obs, Bool.not_not] using hr
   split at h
   ·rename_i hs
    have hl : rest = [f] := by cases h; rfl
    obtain ⟨h1, h2⟩ := hrow [] hl
    have hlen : rows.length = k + 1 := by
     have := (List.getElem?_eq_some_iff.1 h1).1
     have h3 := congrArg List.length h2
     simp at h3; omega
    refine key [] hl ⟨.stop (k + 1), ?_, ?_⟩
    ·rw [hc]
     simp only [obs]
     rw [if_pos hs]
     split <;> rfl
    ·show k + 1 = _
     omega
   ·rename_i hs
    obtain ⟨l, hl2, h⟩ := bind_some h
    have hl : rest = f :: l := by cases h; rfl
    obtain ⟨h1, h2⟩ := hrow l hl
    have hkl := (List.getElem?_eq_some_iff.1 h1).1
    refine key l hl ?_
    by_cases hsp : k = sp
    ·refine ⟨.stop (k + 1), by simp [hsp], ?_⟩
     show k + 1 = _
     omega
    ·rw [if_neg (by simpa using hsp), hc]
     simp only [obs]
     rw [if_neg hs, hw2]
     exact itR_up_L hp n c.fSuper (k + 1) (i + 1) fuel l hl2 h2 hkl (by omega) (by omega) (by omega)
theorem itR_up_ok {p : List GClass} {name : List UInt8} {rows : List Int} (h : itR_up p name = some rows) : ∀ sp, above_up_1 rows sp p name = some (min (sp + 1) rows.length) := by
 intro sp
 unfold itR_up at h
 split at h
 ·rename_i hp
  have hw : w_i64 ((p.length : Int) + 1) = (p.length : Int) + 1 := w64 (by omega) (by omega)
  obtain ⟨r, h1, h2⟩ := itR_up_L (rows := rows) (sp := sp) hp (p.length + 1) name 0 0 (p.length + 2) rows h (by simp) (by omega) (by omega) (by omega) (by omega)
  unfold above_up_1
  rw [hw, show ((((p.length : Int) + 1 : Int) - (0)).toNat + 1) = p.length + 2 by omega, show (0 : Int) = ((0 : Nat) : Int) from rfl, h1]
  cases r with
  | stop v => simpa [obs, Ctl.elim] using h2
  | next v => simpa [obs, Ctl.elim] using h2
 ·cases h






theorem itR_back_len (l : List Int) : ∀ m, m ≤ l.length → (itR_back_n l m).length = m
 | 0, _ => rfl
 | m + 1, h => by
  have hm : l[m]? = some l[m] := List.getElem?_eq_getElem (by omega)
  simp only [itR_back_n, hm, List.length_cons, itR_back_len l m (by omega)]
theorem itR_back_L {l : List Int} {rows : List (Int × Int)} {sp : Nat} (hl : l.length < 4611686018427387904) (hrl : rows.length = l.length) : ∀ (m k fuel : Nat), k + m = l.length → m + 1 ≤ fuel → rows.drop k = itR_back_n l m → k ≤ sp →
  ∃ r, slices_Backward_int_1_L1 l sp rows fuel k ((m : Int) - 1) = some r ∧ Ctl.elim r (fun v => v) (fun v => v) = min (sp + 1) rows.length
 | m, k, 0, _, hf, _, _ => by omega
 | 0, k, fuel + 1, hk, _, _, hs => by
  refine ⟨.next k, ?_, ?_⟩
  ·simp only [slices_Backward_int_1_L1]
   rw [if_neg (by simp)]
  ·show k = _
   omega
 | m + 1, k, fuel + 1, hk, hf, hd, hs => by
  have hm : m < l.length := by omega
  have hmg : l[m]? = some l[m] := List.getElem?_eq_getElem hm
  simp only [itR_back_n, hmg] at hd
  have h1 : rows[k]? = some ((m : Int), l[m]) := by
   have := congrArg (fun z => z[0]?) hd
   simpa using this
  have h2 : rows.drop (k + 1) = itR_back_n l m := by
   have := congrArg (fun z => z.drop 1) hd
   simpa using this
  simp only [slices_Backward_int_1_L1]
  have e : (((m + 1 : Nat) : Int) - 1) = (m : Int) := by omega
  rw [e, if_pos (by simp), idx_lt hm]
  simp only [obs, yck_ok h1 hs]
  by_cases hsp : k = sp
  ·rw [if_pos (by simp [hsp])]
   refine ⟨_, rfl, ?_⟩
   show k + 1 = _
   omega
  ·rw [if_neg (by simpa using hsp), w64 (by omega) (by omega)]
   exact itR_back_L hl hrl m (k + 1) fuel (by omega) (by omega) h2 (by omega)
theorem itR_back_ok {l : List Int} {rows : List (Int × Int)} (h : itR_back l = some rows) : ∀ sp, slices_Backward_int_1 rows sp l = some (min (sp + 1) rows.length) := by
 intro sp
 unfold itR_back at h
 split at h
 ·rename_i hl
  cases h
  unfold slices_Backward_int_1
  rw [w64 (by omega) (by omega)]
  have hlen := itR_back_len l l.length (Nat.le_refl _)
  obtain ⟨r, h1, h2⟩ := itR_back_L (sp := sp) hl hlen l.length 0 ((((l.length : Int) - 1 : Int) - (0)).toNat + 2) (by omega) (by omega) (by simp) (by omega)
  rw [h1]
  cases r with
  | stop v => simpa [obs, Ctl.elim] using h2
  | next v => simpa [obs, Ctl.elim] using h2
 ·cases h














end Go.Proofs.YthhdlpggmmfaiaaGreat
