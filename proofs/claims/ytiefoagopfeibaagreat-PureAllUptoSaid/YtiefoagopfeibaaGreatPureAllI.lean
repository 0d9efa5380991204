/- A part of the proof that the law PureAll gives true for every input. -/
import Derived.Test.YtiefoagopfeibaaGreatPureAllT
/- What the iterators yield. -/
namespace Go.Proofs.YtiefoagopfeibaaGreat
open Go.RowKit Go.Abs





















































































theorem sU (d : Int) (x : aQ) : Uk d x = (d, x) :: (dI (d + 1) x.bM ++ dI (d + 1) x.dp) := by cases x; simp only [Uk]
theorem FG (x : aQ) : dd x.bM + dd x.dp + 1 ≤ dE x := by cases x; simp only [dE]; omega
theorem OH : ∀ (l : List aQ), l.length ≤ dd l
 | [] => by simp
 | x :: l => by have := OH l; have := FG x; simp only [List.length_cons, dd]; omega
theorem qn (x : aQ) (l : List aQ) : dd (x :: l) = dE x + dd l := by simp only [dd]
theorem Pr (d : Int) : ∀ (a b : List aQ), dI d (a ++ b) = dI d a ++ dI d b
 | [], b => by simp [dI]
 | x :: a, b => by simp only [List.cons_append, dI, Pr d a b, List.append_assoc]
/-- How far yield was called, and whether all went on. -/
def zf (k n sp : Nat) : Bool × Nat := if sp < k + n then (false, sp + 1) else (true, k + n)
theorem JF {rows : List (Int × aQ)} {sp : Nat} : ∀ (fuel k : Nat) (l : List aQ) (d : Int) (rest : List (Int × aQ)), rows.drop k = dI d l ++ rest → k ≤ sp → k ≤ rows.length → dd l < fuel → dd l ≤ 1000000 → 0 ≤ d → d + dd l ≤ 4000000 →
  gw rows sp fuel k l d = some (zf k (dI d l).length sp)
 | 0, k, l, d, rest, _, _, _, h, _, _, _ => by omega
 | fuel + 1, k, l, d, rest, hd, hk, hkr, hf, hM, hd0, hdm => by
  have hlm := OH l
  have loop : ∀ (t : List aQ) (pre : List aQ) (k : Nat) (n : Nat), l = pre ++ t → rows.drop k = dI d t ++ rest → k ≤ sp → k ≤ rows.length → t.length < n →
    ∃ res, ib l d sp rows (gw rows sp fuel) n k (pre.length : Int) = some res ∧ Ctl.elim res (fun v => v) (fun v => (true, v)) = zf k (dI d t).length sp := by
   intro t
   induction t with
   | nil =>
    intro pre k n hl hd hk hkr hn
    cases n with
    | zero => simp at hn
    | succ n =>
     simp only [List.append_nil] at hl
     subst hl
     refine ⟨.next k, by simp [ib], ?_⟩
     show (true, k) = zf k ([] : List (Int × aQ)).length sp
     unfold zf
     rw [if_neg (by simp; omega)]; simp
   | cons x t ih =>
    intro pre k n hl hd hk hkr hn
    cases n with
    | zero => simp at hn
    | succ n =>
     have hx : idx l (pre.length : Int) = some x := by rw [hl, cq (by simp)]; simp
     have hlt : (pre.length : Int) < (l.length : Int) := by rw [hl, List.length_append, List.length_cons]; omega
     simp only [dI, sU d x, List.cons_append, List.append_assoc] at hd
     have h1 : rows[k]? = some (d, x) := by
      have := congrArg (fun z => z[0]?) hd
      simpa using this
     have h2 : rows.drop (k + 1) = dI (d + 1) x.bM ++ (dI (d + 1) x.dp ++ (dI d t ++ rest)) := by
      have := congrArg (fun z => z.drop 1) hd
      simpa using this
     have hkl := (List.getElem?_eq_some_iff.1 h1).1
     have hmx := FG x
     have hml : dE x ≤ dd l := by
      rw [hl]
      clear ih hd h1 h2 hx hlt hn hlm hf hM hdm hl
      induction pre with
      | nil => simp only [List.nil_append, qn]; omega
      | cons y pre ihp => simp only [List.cons_append, qn]; omega
     have hw : ak (d + 1) = d + 1 := w64 (by omega) (by omega)
     have hw2 : ak ((pre.length : Int) + 1) = ((pre ++ [x]).length : Int) := by
      have : pre.length < l.length := by rw [hl]; simp
      rw [w64 (by omega) (by omega)]; simp
     have hlen : (dI d (x :: t)).length = 1 + (dI (d + 1) x.bM).length + (dI (d + 1) x.dp).length + (dI d t).length := by
      simp only [dI, sU d x, List.cons_append, List.length_cons, List.length_append]; omega
     rw [ib, if_pos (by simpa using hlt), hx, obs, Ri h1 hk, obs]
     by_cases hsp : k = sp
     ·refine ⟨.stop (false, k + 1), by simp [hsp], ?_⟩
      simp only [Ctl.elim, zf, hlen]
      rw [if_pos (by omega), hsp]
     ·have hq : (k == sp) = false := by simpa using hsp
      have e1 := JF (sp := sp) fuel (k + 1) x.bM (d + 1) _ h2 (by omega) (by omega) (by omega) (by omega) (by omega) (by omega)
      simp only [hq, hw, Bool.not_false, Bool.not_true, Bool.false_eq_true, if_false, obs]
      rw [e1]
      simp only [obs]
      unfold zf
      by_cases hs1 : sp < k + 1 + (dI (d + 1) x.bM).length
      ·rw [if_pos hs1]
       refine ⟨.stop (false, sp + 1), by simp, ?_⟩
       simp only [Ctl.elim, hlen]
       rw [if_pos (by omega)]
      ·rw [if_neg hs1]
       have h3 : rows.drop (k + 1 + (dI (d + 1) x.bM).length) = dI (d + 1) x.dp ++ (dI d t ++ rest) := by
        rw [← List.drop_drop, h2, List.drop_left]
       have hl3 : k + 1 + (dI (d + 1) x.bM).length ≤ rows.length := by
        have := congrArg List.length h2
        simp only [List.length_drop, List.length_append] at this; omega
       have e2 := JF (sp := sp) fuel _ x.dp (d + 1) _ h3 (by omega) hl3 (by omega) (by omega) (by omega) (by omega)
       simp only [Bool.not_true, Bool.false_eq_true, if_false, e2, obs]
       unfold zf
       by_cases hs2 : sp < k + 1 + (dI (d + 1) x.bM).length + (dI (d + 1) x.dp).length
       ·rw [if_pos hs2]
        refine ⟨.stop (false, sp + 1), by simp, ?_⟩
        simp only [Ctl.elim, hlen]
        rw [if_pos (by omega)]
       ·rw [if_neg hs2]
        have h4 : rows.drop (k + 1 + (dI (d + 1) x.bM).length + (dI (d + 1) x.dp).length) = dI d t ++ rest := by
         rw [← List.drop_drop, h3, List.drop_left]
        have hl4 : k + 1 + (dI (d + 1) x.bM).length + (dI (d + 1) x.dp).length ≤ rows.length := by
         have := congrArg List.length h3
         simp only [List.length_drop, List.length_append] at this; omega
        obtain ⟨res, r1, r2⟩ := ih (pre ++ [x]) _ n (by simp [hl]) h4 (by omega) hl4 (by simp at hn; omega)
        refine ⟨res, ?_, ?_⟩
        ·simp only [Bool.not_true, Bool.false_eq_true, if_false, hw2]
         exact r1
        ·rw [r2, hlen]
         unfold zf
         have : k + 1 + (dI (d + 1) x.bM).length + (dI (d + 1) x.dp).length + (dI d t).length = k + (1 + (dI (d + 1) x.bM).length + (dI (d + 1) x.dp).length + (dI d t).length) := by omega
         rw [this]
  obtain ⟨res, r1, r2⟩ := loop l [] k ((((l.length : Int) : Int) - (0)).toNat + 1) (by simp) hd hk hkr (by omega)
  have r1' : ib l d sp rows (gw rows sp fuel) ((((l.length : Int) : Int) - (0)).toNat + 1) k 0 = some res := r1
  rw [gw, r1', obs, ← r2]
  cases res <;> rfl
theorem J0 {c0 : aI} {rows : List (Int × aQ)} (h : ui c0 = some rows) (sp : Nat) : rm rows sp c0 = some (min (sp + 1) rows.length) := by
 unfold ui at h
 split at h
 ·rename_i hM
  cases h
  rw [rm, JF (rows := dI 0 c0.bM) (sp := sp) _ 0 c0.bM 0 [] (by simp) (by omega) (by omega) (by omega) hM (by omega) (by omega), obs]
  unfold zf
  split
  ·simp; omega
  ·simp; omega
 ·cases h



















theorem MF {p : List ae} {rows : List Int} {sp : Nat} (hp : p.length < 9223372036854775806) : ∀ (n : Nat) (name : List UInt8) (k i fuel : Nat) (rest : List Int), sx p n name = some rest → rows.drop k = rest → k ≤ rows.length → k ≤ sp → i + n = p.length + 1 → n < fuel →
  ∃ r, iW p sp rows fuel k name (i : Int) = some r ∧ Ctl.elim r (fun v => v) (fun v => v) = min (sp + 1) rows.length
 | n, name, k, i, 0, rest, _, _, _, _, _, hf => by omega
 | 0, name, k, i, fuel + 1, rest, h, hd, hk, hks, hi, _ => by
  simp only [sx, Option.some.injEq] at h
  subst h
  have hw : ak ((p.length : Int) + 1) = (p.length : Int) + 1 := w64 (by omega) (by omega)
  have hlen : rows.length ≤ k := by have := congrArg List.length hd; simp at this; omega
  refine ⟨.next k, ?_, ?_⟩
  ·simp only [iW, hw]
   rw [if_neg (by simp; omega)]
  ·show k = _
   omega
 | n + 1, name, k, i, fuel + 1, rest, h, hd, hk, hks, hi, hf => by
  simp only [sx] at h
  obtain ⟨f, hF, h⟩ := bind_some h
  have hw : ak ((p.length : Int) + 1) = (p.length : Int) + 1 := w64 (by omega) (by omega)
  have hw2 : ak ((i : Int) + 1) = ((i + 1 : Nat) : Int) := by rw [w64 (by omega) (by omega)]; omega
  simp only [iW, hw, hF, obs]
  rw [if_pos (by simp; omega)]
  by_cases hneg : f < 0
  ·rw [if_pos hneg] at h
   cases h
   have hlen : rows.length ≤ k := by have := congrArg List.length hd; simp at this; omega
   refine ⟨.stop k, by simp [hneg], ?_⟩
   show k = _
   omega
  ·rw [if_neg hneg] at h
   obtain ⟨c, hc, h⟩ := bind_some h
   have hrow : ∀ l, rest = f :: l → rows[k]? = some f ∧ rows.drop (k + 1) = l := by
    intro l hl
    rw [hl] at hd
    have h1 := congrArg (fun z => z[0]?) hd
    have h2 := congrArg (fun z => z.drop 1) hd
    simp at h1 h2
    exact ⟨h1, by rw [← h2]⟩
   have key : ∀ l, rest = f :: l → (∃ r, (if (k == sp) = true then some (.stop (k + 1)) else Option.bind (idx p f) fun (y0 : ae) => if (y0.di == []) = true then some (.stop (k + 1)) else iW p sp rows fuel (k + 1) y0.di (ak ((i : Int) + 1))) = some r ∧ Ctl.elim r (fun v => v) (fun v => v) = min (sp + 1) rows.length) →
     ∃ r, (Option.bind (if (decide (f < 0)) = true then some (k, true) else Option.bind (yck rows sp k f) fun (_ : Unit) => some ((k + 1), (!(!(k == sp)))) : Option (Nat × Bool)) fun x => match x with
      | (x0, x1) => if x1 = true then some (.stop x0) else Option.bind (idx p f) fun (y0 : ae) => if (y0.di == []) = true then some (.stop x0) else iW p sp rows fuel x0 y0.di (ak ((i : Int) + 1))) = some r ∧ Ctl.elim r (fun v => v) (fun v => v) = min (sp + 1) rows.length := by
    intro l hl hr
    rw [if_neg (by simpa using hneg), Ri (hrow l hl).1 hks]
    simpa only [obs, Bool.not_not] using hr
   split at h
   ·rename_i hs
    have hl : rest = [f] := by cases h; rfl
    obtain ⟨h1, h2⟩ := hrow [] hl
    have hlen : rows.length = k + 1 := by
     have := (List.getElem?_eq_some_iff.1 h1).1
     have h3 := congrArg List.length h2
     simp at h3; omega
    refine key [] hl ⟨.stop (k + 1), ?_, ?_⟩
    ·rw [hc]
     simp only [obs]
     rw [if_pos hs]
     split <;> rfl
    ·show k + 1 = _
     omega
   ·rename_i hs
    obtain ⟨l, hl2, h⟩ := bind_some h
    have hl : rest = f :: l := by cases h; rfl
    obtain ⟨h1, h2⟩ := hrow l hl
    have hkl := (List.getElem?_eq_some_iff.1 h1).1
    refine key l hl ?_
    by_cases hsp : k = sp
    ·refine ⟨.stop (k + 1), by simp [hsp], ?_⟩
     show k + 1 = _
     omega
    ·rw [if_neg (by simpa using hsp), hc]
     simp only [obs]
     rw [if_neg hs, hw2]
     exact MF hp n c.di (k + 1) (i + 1) fuel l hl2 h2 hkl (by omega) (by omega) (by omega)
theorem IG {p : List ae} {name : List UInt8} {rows : List Int} (h : zP p name = some rows) : ∀ sp, uW rows sp p name = some (min (sp + 1) rows.length) := by
 intro sp
 unfold zP at h
 split at h
 ·rename_i hp
  have hw : ak ((p.length : Int) + 1) = (p.length : Int) + 1 := w64 (by omega) (by omega)
  obtain ⟨r, h1, h2⟩ := MF (rows := rows) (sp := sp) hp (p.length + 1) name 0 0 (p.length + 2) rows h (by simp) (by omega) (by omega) (by omega) (by omega)
  unfold uW
  rw [hw, show ((((p.length : Int) + 1 : Int) - (0)).toNat + 1) = p.length + 2 by omega, show (0 : Int) = ((0 : Nat) : Int) from rfl, h1]
  cases r with
  | stop v => simpa [obs, Ctl.elim] using h2
  | next v => simpa [obs, Ctl.elim] using h2
 ·cases h



















































end Go.Proofs.YtiefoagopfeibaaGreat
