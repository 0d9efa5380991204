/- The abstract layer that the proof stands on: no condition. -/
import Derived.Test.YthhdlpggmmfaiaaGreatDotDeepA1
import Derived.RangeFuncRecord
import Derived.Lib.Bytealg
import Derived.Laws.Externs
import Derived.Maps.Own
import Derived.Maps.OwnSet
namespace Go.Abs
variable {G : List (Nat × List PV)}
open Go.RowKit
structure Eff where
 need : List (Nat × AV) := []
 hneed : List (Nat × Blk) := []
 names : List Nat := []
 dst : Option Nat := none
 val : Option AV := none
 upd : List (Nat × Option Blk) := []
structure Mid where
 fr : List (Nat × Option AV)
 hp : List (Nat × Option Blk)
 free : List Nat
def Mid.st (m : Mid) (n : Nat) (df : List Deferred) (next : Nat) (ys : Nat) (kt : List Nat) : St := { n := n, fr := m.fr, hp := m.hp, next := next, df := df, free := m.free, ys := ys, kt := kt }
def Eff.apply (e : Eff) (m : Mid) : Mid :=
 { fr := match e.dst with | some d => (d, e.val) :: m.fr | none => m.fr, hp := e.upd ++ m.hp, free := match e.names with | [] => m.free | ns => m.free.filter fun x => !(ns.elem x) }
def HasT (fr : List (Nat × Option AV)) : List (Nat × AV) → Prop
 | [] => True
 | (t, x) :: l => look t fr = some x ∧ HasT fr l
def HasH (hp : List (Nat × Option Blk)) : List (Nat × Blk) → Prop
 | [] => True
 | (id, b) :: l => look id hp = some b ∧ HasH hp l
def HasN (free : List Nat) : List Nat → Prop
 | [] => True
 | k :: l => free.elem k = true ∧ HasN free l
def Has (e : Eff) (m : Mid) : Prop := HasT m.fr e.need ∧ HasH m.hp e.hneed ∧ HasN m.free e.names
theorem HasT.iff {fr : List (Nat × Option AV)} : ∀ {l : List (Nat × AV)}, HasT fr l ↔ ∀ t x, (t, x) ∈ l → look t fr = some x
 | [] => by simp [HasT]
 | (t, x) :: l => by
  simp only [HasT, HasT.iff (l := l), List.mem_cons]
  constructor
  ·rintro ⟨h1, h2⟩ t' x' (h | h)
   ·cases h; exact h1
   ·exact h2 t' x' h
  ·intro h
   exact ⟨h t x (.inl rfl), fun t' x' h' => h t' x' (.inr h')⟩
theorem HasH.iff {hp : List (Nat × Option Blk)} : ∀ {l : List (Nat × Blk)}, HasH hp l ↔ ∀ t x, (t, x) ∈ l → look t hp = some x
 | [] => by simp [HasH]
 | (t, x) :: l => by
  simp only [HasH, HasH.iff (l := l), List.mem_cons]
  constructor
  ·rintro ⟨h1, h2⟩ t' x' (h | h)
   ·cases h; exact h1
   ·exact h2 t' x' h
  ·intro h
   exact ⟨h t x (.inl rfl), fun t' x' h' => h t' x' (.inr h')⟩
theorem HasN.iff {free : List Nat} : ∀ {l : List Nat}, HasN free l ↔ ∀ k ∈ l, k ∈ free
 | [] => by simp [HasN]
 | k :: l => by simp [HasN, HasN.iff (l := l)]
section
variable (ro : Option Nat) (P : Program) (c : Cx G)
def StepOk (all : List Oper) (o : Oper) (s s' : St) : Prop := (Guard all s o true ∧ OpOk ro P c o s s') ∨ (Guard all s o false ∧ ktB s o.dst = true ∧ s' = s.put o.dst (some (.tup [])))
def OpFacts (all : List Oper) (n : Nat) (df : List Deferred) (next : Nat) (ys : Nat) (kt : List Nat) : List Oper → List Eff → Prop
 | [], [] => True
 | o :: os, e :: es => (∀ m : Mid, Has e m → StepOk ro P c all o (m.st n df next ys kt) ((e.apply m).st n df next ys kt)) ∧ OpFacts all n df next ys kt os es
 | _, _ => False
end
def TextOk : List Eff → Mid → Prop
 | [], _ => True
 | e :: es, m => Has e m ∧ TextOk es (e.apply m)
def wT (e : Eff) : List Nat := e.dst.toList
def rT (e : Eff) : List Nat := e.need.map (·.1)
def wH (e : Eff) : List Nat := e.upd.map (·.1)
def rH (e : Eff) : List Nat := e.hneed.map (·.1)
def clash (a b : Eff) : Bool :=
 (wT a).any (fun t => (wT b).elem t || (rT b).elem t) || (wT b).any (fun t => (rT a).elem t) ||
 (wH a).any (fun t => (wH b).elem t || (rH b).elem t) || (wH b).any (fun t => (rH a).elem t)
inductive Anc (ops : List Oper) (i : Nat) : Nat → Prop
 | one (j : Nat) (o : Oper) (e : Edge) (ho : ops[j]? = some o) (he : e ∈ o.after) (hb : Region.binds .any e = true) (hi : e.on = i) : Anc ops i j
 | more (j : Nat) (o : Oper) (e : Edge) (ho : ops[j]? = some o) (he : e ∈ o.after) (hb : Region.binds .any e = true) (h : Anc ops i e.on) : Anc ops i j
def edgesOf (o : Oper) : List Nat := (o.after.toList.filter (Region.binds .any)).map (·.on)
def ancs : List Oper → List Nat → List Nat
 | [], acc => acc
 | o :: os, acc => ancs os (acc ++ [(edgesOf o).foldl (fun m k => m ||| (2 ^ k) ||| acc.getD k 0) 0])
def edgesB : Nat → List Oper → Bool
 | _, [] => true
 | i, o :: os => (edgesOf o).all (fun k => Nat.blt k i) && edgesB (i + 1) os
def clashB (masks : List Nat) (es : List Eff) : Bool :=
 (List.range es.length).all fun j => match es[j]? with
  | some ej => (List.range j).all fun i => match es[i]? with
   | some ei => !(clash ei ej) || Nat.testBit (masks.getD j 0) i
   | none => true
  | none => true
def namesB (es : List Eff) : Bool := es.all fun e => e.names.all fun k => (wH e).elem k
def orderB (ops : List Oper) (es : List Eff) : Bool := edgesB 0 ops && (clashB (ancs ops []) es && namesB es)
theorem edgesB_spec : ∀ (os : List Oper) (k : Nat), edgesB k os = true → ∀ i o, os[i]? = some o → ∀ x ∈ edgesOf o, x < k + i
 | [], k, h, i, o, ho, x, hx => by simp at ho
 | o' :: os, k, h, i, o, ho, x, hx => by
  simp only [edgesB, Bool.and_eq_true, List.all_eq_true] at h
  cases i with
  | zero => simp at ho; subst ho; have := h.1 x hx; simpa [Nat.blt_eq] using this
  | succ i =>
   have := edgesB_spec os (k + 1) h.2 i o (by simpa using ho) x hx
   omega
theorem mem_edgesOf {o : Oper} {k : Nat} : k ∈ edgesOf o ↔ ∃ e ∈ o.after, Region.binds .any e = true ∧ e.on = k := by
 simp only [edgesOf, List.mem_map, List.mem_filter, Array.mem_toList_iff]
 constructor
 ·rintro ⟨e, ⟨h1, h2⟩, h3⟩; exact ⟨e, h1, h2, h3⟩
 ·rintro ⟨e, h1, h2, h3⟩; exact ⟨e, ⟨h1, h2⟩, h3⟩
theorem foldl_or_spec (acc : List Nat) (i : Nat) : ∀ (l : List Nat) (m : Nat), Nat.testBit (l.foldl (fun m k => m ||| (2 ^ k) ||| acc.getD k 0) m) i = true → Nat.testBit m i = true ∨ ∃ k ∈ l, k = i ∨ Nat.testBit (acc.getD k 0) i = true
 | [], m, h => .inl h
 | k :: l, m, h => by
  rcases foldl_or_spec acc i l _ h with h1 | ⟨k', h1, h2⟩
  ·simp only [Nat.testBit_or, Bool.or_eq_true, Nat.testBit_two_pow, decide_eq_true_eq] at h1
   rcases h1 with (h1 | h1) | h1
   ·exact .inl h1
   ·exact .inr ⟨k, by simp, .inl h1⟩
   ·exact .inr ⟨k, by simp, .inr h1⟩
  ·exact .inr ⟨k', by simp [h1], h2⟩
theorem ancs_spec (ops : List Oper) (i : Nat) : ∀ (os : List Oper) (pre : List Oper) (acc : List Nat), ops = pre ++ os → acc.length = pre.length → (∀ j, Nat.testBit (acc.getD j 0) i = true → Anc ops i j) → ∀ j, Nat.testBit ((ancs os acc).getD j 0) i = true → Anc ops i j
 | [], pre, acc, _, _, h, j, hj => h j hj
 | o :: os, pre, acc, he, hl, h, j, hj => by
  refine ancs_spec ops i os (pre ++ [o]) _ (by simp [he]) (by simp [hl]) ?_ j hj
  intro j hj
  simp only [List.getD, List.getElem?_append] at hj
  split at hj
  ·exact h j (by simpa [List.getD] using hj)
  ·rename_i hlt
   by_cases hj0 : j - acc.length = 0
   ·rw [hj0] at hj
    simp only [List.getElem?_cons_zero, Option.getD_some] at hj
    have hjl : j = pre.length := by omega
    have ho : ops[j]? = some o := by rw [he, hjl]; simp
    rcases foldl_or_spec acc i (edgesOf o) 0 hj with h1 | ⟨k, h1, h2⟩
    ·simp at h1
    ·obtain ⟨e, e1, e2, e3⟩ := mem_edgesOf.1 h1
     rcases h2 with h2 | h2
     ·exact .one j o e ho e1 e2 (e3.trans h2)
     ·exact .more j o e ho e1 e2 (by rw [e3]; exact h k h2)
   ·have : ¬ (j - acc.length < 1) := by omega
    rw [List.getElem?_eq_none (by simp; omega)] at hj
    simp at hj
theorem orderB_spec {ops : List Oper} {es : List Eff} (h : orderB ops es = true) : (∀ i o, ops[i]? = some o → ∀ x ∈ edgesOf o, x < i) ∧ (∀ i j ei ej, i < j → es[i]? = some ei → es[j]? = some ej → clash ei ej = true → Anc ops i j) ∧ ∀ e ∈ es, ∀ k ∈ e.names, k ∈ wH e := by
 simp only [orderB, Bool.and_eq_true] at h
 refine ⟨fun i o ho x hx => by have := edgesB_spec ops 0 h.1 i o ho x hx; omega, fun i j ei ej hij hi hj hc => ?_, fun e he k hk => by
  have := List.all_eq_true.1 h.2.2 e he
  have := List.all_eq_true.1 this k hk
  simpa using this⟩
 have h2 := h.2.1
 simp only [clashB, List.all_eq_true, List.mem_range] at h2
 have hjl : j < es.length := (List.getElem?_eq_some_iff.1 hj).1
 have := h2 j hjl
 rw [hj] at this
 simp only [List.all_eq_true, List.mem_range] at this
 have := this i hij
 rw [hi] at this
 simp only [hc, Bool.not_true, Bool.false_or] at this
 exact ancs_spec ops i ops [] [] rfl rfl (by intro j h; simp at h) j this
def runP (p : Nat → Bool) : Nat → List Eff → Mid → Mid
 | _, [], m => m
 | k, e :: es, m => runP p (k + 1) es (bif p k then e.apply m else m)
theorem look_cons_ne {α : Type} {t k : Nat} (x : Option α) (l : List (Nat × Option α)) (h : k ≠ t) : look t ((k, x) :: l) = look t l := by rw [look_cons, if_neg h]
theorem look_apply_fr {e : Eff} {m : Mid} {t : Nat} (h : t ∉ wT e) : look t (e.apply m).fr = look t m.fr := by
 unfold Eff.apply
 cases hd : e.dst with
 | none => rfl
 | some d => simp only; exact look_cons_ne _ _ (fun e' => h (by simp [wT, hd, e']))
theorem look_append_ne {α : Type} {t : Nat} : ∀ {l m : List (Nat × Option α)}, t ∉ l.map (·.1) → look t (l ++ m) = look t m
 | [], _, _ => rfl
 | (k, x) :: l, m, h => by
  simp only [List.map_cons, List.mem_cons, not_or] at h
  rw [List.cons_append, look_cons_ne _ _ (fun e => h.1 e.symm)]
  exact look_append_ne h.2
theorem look_append_in {α : Type} {t : Nat} : ∀ {l m m' : List (Nat × Option α)}, t ∈ l.map (·.1) → look t (l ++ m) = look t (l ++ m')
 | [], _, _, h => by simp at h
 | (k, x) :: l, m, m', h => by
  by_cases e : k = t
  ·subst e; simp [look_cons]
  ·rw [List.cons_append, List.cons_append, look_cons_ne _ _ e, look_cons_ne _ _ e]
   simp only [List.map_cons, List.mem_cons] at h
   rcases h with h | h
   ·exact absurd h.symm e
   ·exact look_append_in h
theorem look_apply_hp {e : Eff} {m : Mid} {t : Nat} (h : t ∉ wH e) : look t (e.apply m).hp = look t m.hp :=
 look_append_ne h
theorem mem_apply_free {e : Eff} {m : Mid} {t : Nat} : t ∈ (e.apply m).free ↔ t ∈ m.free ∧ t ∉ e.names := by
 unfold Eff.apply
 cases h : e.names with
 | nil => simp
 | cons k l => simp
theorem free_apply {e : Eff} {m : Mid} {t : Nat} (h : t ∉ e.names) : t ∈ (e.apply m).free ↔ t ∈ m.free := by
 rw [mem_apply_free]; simp [h]
theorem runP_fr {p q : Nat → Bool} {t : Nat} : ∀ (es : List Eff) (k : Nat) (m m' : Mid), look t m.fr = look t m'.fr → (∀ j e, es[j]? = some e → t ∈ wT e → p (k + j) = q (k + j)) → look t (runP p k es m).fr = look t (runP q k es m').fr
 | [], _, _, _, h, _ => h
 | e :: es, k, m, m', h, hpq => by
  refine runP_fr es (k + 1) _ _ ?_ fun j e' hj ht => by have := hpq (j + 1) e' (by simpa using hj) ht; rw [show k + 1 + j = k + (j + 1) by omega]; exact this
  by_cases ht : t ∈ wT e
  ·have := hpq 0 e rfl ht
   simp only [Nat.add_zero] at this
   rw [this]
   cases q k with
   | false => exact h
   | true =>
    simp only [cond_true]
    unfold Eff.apply
    cases hd : e.dst with
    | none => simp [wT, hd] at ht
    | some d => simp only [wT, hd, Option.toList_some, List.mem_singleton] at ht; subst ht; simp [look_cons]
  ·have e1 : look t (bif p k then e.apply m else m).fr = look t m.fr := by cases p k with
    | false => rfl
    | true => exact look_apply_fr ht
   have e2 : look t (bif q k then e.apply m' else m').fr = look t m'.fr := by cases q k with
    | false => rfl
    | true => exact look_apply_fr ht
   rw [e1, e2, h]
theorem runP_hp {p q : Nat → Bool} {t : Nat} : ∀ (es : List Eff) (k : Nat) (m m' : Mid), look t m.hp = look t m'.hp → (∀ j e, es[j]? = some e → t ∈ wH e → p (k + j) = q (k + j)) → look t (runP p k es m).hp = look t (runP q k es m').hp
 | [], _, _, _, h, _ => h
 | e :: es, k, m, m', h, hpq => by
  refine runP_hp es (k + 1) _ _ ?_ fun j e' hj ht => by have := hpq (j + 1) e' (by simpa using hj) ht; rw [show k + 1 + j = k + (j + 1) by omega]; exact this
  by_cases ht : t ∈ wH e
  ·have := hpq 0 e rfl ht
   simp only [Nat.add_zero] at this
   rw [this]
   cases q k with
   | false => exact h
   | true =>
    simp only [cond_true, Eff.apply]
    by_cases hu : t ∈ e.upd.map (·.1)
    ·exact look_append_in hu
    ·rw [look_append_ne hu, look_append_ne hu, h]
  ·have e1 : look t (bif p k then e.apply m else m).hp = look t m.hp := by cases p k with
    | false => rfl
    | true => exact look_apply_hp ht
   have e2 : look t (bif q k then e.apply m' else m').hp = look t m'.hp := by cases q k with
    | false => rfl
    | true => exact look_apply_hp ht
   rw [e1, e2, h]
theorem runP_free {p q : Nat → Bool} {t : Nat} : ∀ (es : List Eff) (k : Nat) (m m' : Mid), (t ∈ m.free ↔ t ∈ m'.free) → (∀ j e, es[j]? = some e → t ∈ e.names → p (k + j) = q (k + j)) → (t ∈ (runP p k es m).free ↔ t ∈ (runP q k es m').free)
 | [], _, _, _, h, _ => h
 | e :: es, k, m, m', h, hpq => by
  refine runP_free es (k + 1) _ _ ?_ fun j e' hj ht => by have := hpq (j + 1) e' (by simpa using hj) ht; rw [show k + 1 + j = k + (j + 1) by omega]; exact this
  by_cases ht : t ∈ e.names
  ·have := hpq 0 e rfl ht
   simp only [Nat.add_zero] at this
   rw [this]
   cases q k with
   | false => exact h
   | true => simp only [cond_true, mem_apply_free, h]
  ·have e1 : t ∈ (bif p k then e.apply m else m).free ↔ t ∈ m.free := by cases p k with
    | false => exact Iff.rfl
    | true => exact free_apply ht
   have e2 : t ∈ (bif q k then e.apply m' else m').free ↔ t ∈ m'.free := by cases q k with
    | false => exact Iff.rfl
    | true => exact free_apply ht
   rw [e1, e2, h]
theorem textOk_has : ∀ (es : List Eff) (k : Nat) (m : Mid), TextOk es m → ∀ i e, es[i]? = some e → Has e (runP (fun j => Nat.blt j (k + i)) k (es.take i) m)
 | [], _, _, _, i, e, h => by simp at h
 | e' :: es, k, m, h, 0, e, hi => by simp at hi; subst hi; exact h.1
 | e' :: es, k, m, h, i + 1, e, hi => by
  have := textOk_has es (k + 1) (e'.apply m) h.2 i e (by simpa using hi)
  simp only [List.take_succ_cons, runP]
  have hb : Nat.blt k (k + (i + 1)) = true := by simp [Nat.blt_eq]
  rw [hb, cond_true, show k + (i + 1) = k + 1 + i by omega]
  exact this
theorem runP_congr {p q : Nat → Bool} : ∀ (es : List Eff) (k : Nat) (m : Mid), (∀ j, j < es.length → p (k + j) = q (k + j)) → runP p k es m = runP q k es m
 | [], _, _, _ => rfl
 | e :: es, k, m, h => by
  have h0 := h 0 (by simp)
  simp only [Nat.add_zero] at h0
  simp only [runP, h0]
  exact runP_congr es (k + 1) _ fun j hj => by have := h (j + 1) (by simp; omega); rw [show k + 1 + j = k + (j + 1) by omega]; exact this
theorem runP_none : ∀ (es : List Eff) (k : Nat) (m : Mid), runP (fun _ => false) k es m = m
 | [], _, _ => rfl
 | e :: es, k, m => by simp only [runP, cond_false]; exact runP_none es (k + 1) m
theorem runP_take (es : List Eff) : ∀ (i k : Nat) (m : Mid), runP (fun j => Nat.blt j (k + i)) k (es.take i) m = runP (fun j => Nat.blt j (k + i)) k es m := by
 induction es with
 | nil => intro i k m; simp [runP]
 | cons e es ih =>
  intro i k m
  cases i with
  | zero =>
   simp only [List.take_zero, runP]
   rw [runP_congr (q := fun _ => false) es (k + 1) _ (fun j _ => by simp [Nat.blt_eq, Bool.eq_false_iff]; omega)]
   rw [runP_none]
   simp [Bool.eq_false_iff.2 (show ¬ Nat.blt k k = true by simp [Nat.blt_eq])]
  | succ i =>
   simp only [List.take_succ_cons, runP]
   have := ih i (k + 1) (bif Nat.blt k (k + (i + 1)) then e.apply m else m)
   rw [show k + (i + 1) = k + 1 + i by omega] at this ⊢
   exact this
theorem runP_last {q : Nat → Bool} {t : Nat} : ∀ (es : List Eff) (k i : Nat) (m m' : Mid) (e : Eff), es[i]? = some e → q (k + i) = true → t ∈ wT e → (∀ j e', i < j → es[j]? = some e' → t ∈ wT e' → q (k + j) = false) → look t (runP q k es m).fr = look t (e.apply m').fr
 | [], _, i, _, _, e, h, _, _, _ => by simp at h
 | e' :: es, k, 0, m, m', e, h, hq, ht, hj => by
  simp at h; subst h
  simp only [Nat.add_zero] at hq
  simp only [runP, hq, cond_true]
  rw [runP_fr (q := fun _ => false) es (k + 1) (e'.apply m) (e'.apply m) rfl (fun j e2 h2 h3 => by have := hj (j + 1) e2 (by omega) (by simpa using h2) h3; rw [show k + 1 + j = k + (j + 1) by omega]; exact this), runP_none]
  unfold Eff.apply
  cases hd : e'.dst with
  | none => simp [wT, hd] at ht
  | some d => simp only [wT, hd, Option.toList_some, List.mem_singleton] at ht; subst ht; simp [look_cons]
 | e' :: es, k, i + 1, m, m', e, h, hq, ht, hj => by
  simp only [runP]
  exact runP_last es (k + 1) i _ m' e (by simpa using h) (by rw [show k + 1 + i = k + (i + 1) by omega]; exact hq) ht (fun j e2 h1 h2 h3 => by have := hj (j + 1) e2 (by omega) (by simpa using h2) h3; rw [show k + 1 + j = k + (j + 1) by omega]; exact this)
theorem runP_lastH {q : Nat → Bool} {t : Nat} : ∀ (es : List Eff) (k i : Nat) (m m' : Mid) (e : Eff), es[i]? = some e → q (k + i) = true → t ∈ wH e → (∀ j e', i < j → es[j]? = some e' → t ∈ wH e' → q (k + j) = false) → look t (runP q k es m).hp = look t (e.apply m').hp
 | [], _, i, _, _, e, h, _, _, _ => by simp at h
 | e' :: es, k, 0, m, m', e, h, hq, ht, hj => by
  simp at h; subst h
  simp only [Nat.add_zero] at hq
  simp only [runP, hq, cond_true]
  rw [runP_hp (q := fun _ => false) es (k + 1) (e'.apply m) (e'.apply m) rfl (fun j e2 h2 h3 => by have := hj (j + 1) e2 (by omega) (by simpa using h2) h3; rw [show k + 1 + j = k + (j + 1) by omega]; exact this), runP_none]
  exact look_append_in ht
 | e' :: es, k, i + 1, m, m', e, h, hq, ht, hj => by
  simp only [runP]
  exact runP_lastH es (k + 1) i _ m' e (by simpa using h) (by rw [show k + 1 + i = k + (i + 1) by omega]; exact hq) ht (fun j e2 h1 h2 h3 => by have := hj (j + 1) e2 (by omega) (by simpa using h2) h3; rw [show k + 1 + j = k + (j + 1) by omega]; exact this)
theorem runP_freeSub {q : Nat → Bool} {t : Nat} : ∀ (es : List Eff) (k : Nat) (m : Mid), t ∈ (runP q k es m).free → t ∈ m.free ∧ ∀ j e, es[j]? = some e → q (k + j) = true → t ∉ e.names
 | [], _, _, h => ⟨h, by simp⟩
 | e' :: es, k, m, h => by
  simp only [runP] at h
  obtain ⟨h1, h2⟩ := runP_freeSub es (k + 1) _ h
  have h3 : t ∈ m.free ∧ (q k = true → t ∉ e'.names) := by
   cases hq : q k with
   | false => rw [hq] at h1; exact ⟨h1, by simp⟩
   | true =>
    rw [hq] at h1
    simp only [cond_true, mem_apply_free] at h1
    exact ⟨h1.1, fun _ => h1.2⟩
  refine ⟨h3.1, fun j e hj hqj => ?_⟩
  cases j with
  | zero => simp at hj; subst hj; exact h3.2 (by simpa using hqj)
  | succ j => exact h2 j e (by simpa using hj) (by rw [show k + 1 + j = k + (j + 1) by omega]; exact hqj)
section
variable {ro : Option Nat} {P : Program} {c : Cx G} {Q : Exit → Act → World → Prop} {s s' : St}
theorem imp_less (hn : s'.n = s.n) (hys : s'.ys = s.ys) (hkt : s'.kt = s.kt) (hnext : s'.next = s.next) (hfr : ∀ t x, look t s'.fr = some x → look t s.fr = some x) (hhp : ∀ t x, look t s'.hp = some x → look t s.hp = some x) (hfree : ∀ k, k ∈ s'.free → k ∈ s.free) : Imp c s s' := by
 rintro a w ⟨O, θ, h⟩
 exact ⟨O, θ, h.size.trans hn.symm, h.df, fun t x hx => h.fr t x (hfr t x hx), fun id b hb => h.hp id b (hhp id b hb), fun i j bi bj vi vj g hi hj => h.inj i j bi bj vi vj g (hhp i bi hi) (hhp j bj hj),
  fun id v hv => ⟨by rw [hnext]; exact (h.dom id v hv).1, fun hm => (h.dom id v hv).2 (hfree id hm)⟩, fun k hk => by rw [hnext]; exact h.flt k (hfree k hk), h.one, h.olt, h.ext, h.xo, h.xlt, h.llt, h.marks, h.oc, by rw [hkt]; exact h.kp, by
   rw [hys]
   refine c.Jst h.jn ⟨rfl, rfl, rfl, Nat.le_refl _, fun _ _ _ => rfl, fun g h => .inl h, fun g h _ => h, h.olt, fun g hI => .inl ?_⟩
   rcases hI with hI | ⟨id, b, v, h1, h2, h3⟩ | hI
   ·exact .inl hI
   ·exact .inr (.inl ⟨id, b, v, hhp id b h1, h2, h3⟩)
   ·exact .inr (.inr hI)⟩
theorem imp_names (k : Nat) : Imp c s { s with next := s.next + k, free := (List.range k).map (s.next + ·) } := by
 rintro a w ⟨O, θ, h⟩
 refine ⟨O, θ, h.size, h.df, h.fr, h.hp, h.inj, fun id v hv => ⟨?_, fun hm => ?_⟩, fun j hj => ?_, h.one, h.olt, h.ext, h.xo, h.xlt, h.llt, h.marks, h.oc, h.kp, h.jn⟩
 ·have := (h.dom id v hv).1; show id < s.next + k; omega
 ·obtain ⟨j, hj, e⟩ := List.mem_map.1 hm
  have := (h.dom id v hv).1
  simp at hj; omega
 ·obtain ⟨j', hj', e⟩ := List.mem_map.1 hj
  simp at hj'
  show j < s.next + k
  omega
theorem wpIn_facts {all : List Oper} {n next ys : Nat} {kt : List Nat} {df : List Deferred} : ∀ {l : List Oper} {es : List Eff}, OpFacts ro P c all n df next ys kt l es → l.length = es.length ∧ ∀ (i : Nat) (o : Oper) (e : Eff), l[i]? = some o → es[i]? = some e → ∀ m : Mid, Has e m → StepOk ro P c all o (m.st n df next ys kt) ((e.apply m).st n df next ys kt)
 | [], [], _ => by simp
 | o :: os, e :: es, h => by
  obtain ⟨h1, h2⟩ := wpIn_facts h.2
  refine ⟨by simp [h1], fun i o' e' ho he m hm => ?_⟩
  cases i with
  | zero => simp at ho he; subst ho; subst he; exact h.1 m hm
  | succ i => exact h2 i o' e' (by simpa using ho) (by simpa using he) m hm
 | [], _ :: _, h => by simp [OpFacts] at h
 | _ :: _, [], h => by simp [OpFacts] at h
theorem mem_ready {ops : Array Oper} {listed : Array Bool} {i : Nat} : i ∈ Region.ready .any ops listed ↔ i < ops.size ∧ listed.getD i true = false ∧ ∃ o, ops[i]? = some o ∧ ∀ e ∈ o.after, Region.binds .any e = true → listed.getD e.on false = true := by
 unfold Region.ready
 rw [List.mem_filter, List.mem_range]
 constructor
 ·rintro ⟨h1, h2⟩
  simp only [Bool.and_eq_true, Bool.not_eq_true'] at h2
  refine ⟨h1, h2.1, ops[i], by simp [h1], fun e he hb => ?_⟩
  have h3 := h2.2
  rw [show ops[i]? = some ops[i] by simp [h1]] at h3
  simp only [Option.map_some, Option.getD_some] at h3
  have := Array.all_eq_true_iff_forall_mem.1 h3 e he
  simpa [hb] using this
 ·rintro ⟨h1, h2, o, ho, h3⟩
  refine ⟨h1, ?_⟩
  simp only [h2, Bool.not_false, Bool.true_and, ho, Option.map_some, Option.getD_some]
  refine Array.all_eq_true_iff_forall_mem.2 fun e he => ?_
  cases hb : Region.binds .any e with
  | false => simp
  | true => simpa using h3 e he hb
theorem aw_drawn {id n next ys : Nat} {kt : List Nat} {df : List Deferred} {l : List Oper} (es : List Eff) (m0 : Mid) (hm : P.follows .mixedOrders = true) (hs0 : s = m0.st n df next ys kt) (hF : OpFacts ro P c l n df next ys kt l es) (hT : TextOk es m0) (hB : orderB l es = true)
  (h : Post c Q .normal ((runP (fun _ => true) 0 es m0).st n df next ys kt)) : AW ro P c (.region id l.toArray true) Q s := by
 subst hs0
 obtain ⟨hlen, hfact⟩ := wpIn_facts hF
 obtain ⟨hEdge, hClash, hNames⟩ := orderB_spec hB
 -- whoever waits for one that is listed ..
 have key : ∀ (fuel : Nat) (listed : Array Bool) (a : Act) (w : World), listed.size = l.length → (∀ j o e, l[j]? = some o → e ∈ o.after → Region.binds .any e = true → listed.getD j false = true → listed.getD e.on false = true) →
   ((List.range l.length).filter fun i => !listed.getD i true).length ≤ fuel → Sim c ((runP (fun i => listed.getD i false) 0 es m0).st n df next ys kt) a w → wpAnyIn (FF ro) 0 P .any l.toArray Q fuel listed a w := by
  have getD_tf : ∀ (listed : Array Bool) (i : Nat), i < listed.size → listed.getD i true = listed.getD i false := fun listed i hi => by simp [hi]
  have down : ∀ (listed : Array Bool), (∀ j o e, l[j]? = some o → e ∈ o.after → Region.binds .any e = true → listed.getD j false = true → listed.getD e.on false = true) → ∀ i j, Anc l i j → listed.getD j false = true → listed.getD i false = true := by
   intro listed hd i j ha
   induction ha with
   | one j o e ho he hb hi => intro hj; rw [← hi]; exact hd j o e ho he hb hj
   | more j o e ho he hb _ ih => intro hj; exact ih (hd j o e ho he hb hj)
  have finish : ∀ (listed : Array Bool) (a : Act) (w : World), listed.size = l.length → Region.ready .any l.toArray listed = [] → Sim c ((runP (fun i => listed.getD i false) 0 es m0).st n df next ys kt) a w → Q .normal a w := by
   intro listed a w hsz hr hs
   have all : ∀ i, i < l.length → listed.getD i false = true := by
    intro i
    induction i using Nat.strongRecOn with
    | _ i ih =>
     intro hi
     cases hb : listed.getD i false with
     | true => rfl
     | false =>
      exfalso
      have hmem : i ∈ Region.ready .any l.toArray listed := by
       refine mem_ready.2 ⟨by simpa using hi, by rw [getD_tf listed i (by omega)]; exact hb, l[i], by simp [hi], fun e he hbd => ?_⟩
       have hlt := hEdge i l[i] (by simp [hi]) e.on (mem_edgesOf.2 ⟨e, he, hbd, rfl⟩)
       exact ih e.on hlt (by omega)
      rw [hr] at hmem; cases hmem
   refine h a w ?_
   rw [← runP_congr (p := fun i => listed.getD i false) es 0 m0 (fun j hj => by rw [Nat.zero_add]; exact all j (by omega))]
   exact hs
  intro fuel
  induction fuel with
  | zero =>
   intro listed a w hsz hd hc hs
   have hr : Region.ready .any l.toArray listed = [] := by
    rw [List.eq_nil_iff_forall_not_mem]
    intro i hi
    obtain ⟨h1, h2, _⟩ := mem_ready.1 hi
    have : i ∈ (List.range l.length).filter fun i => !listed.getD i true := List.mem_filter.2 ⟨by simpa using h1, by simp [h2]⟩
    have := List.length_pos_of_mem this
    omega
   exact ⟨hr, finish listed a w hsz hr hs⟩
  | succ fuel ih =>
   intro listed a w hsz hd hc hs
   refine ⟨fun hr => finish listed a w hsz hr hs, fun i hi => ?_⟩
   obtain ⟨h1, h2, o, ho, hafter⟩ := mem_ready.1 hi
   have hil : i < l.length := by simpa using h1
   have ho' : l[i]? = some o := by simpa using ho
   have hiF : listed.getD i false = false := by rw [← getD_tf listed i (by omega)]; exact h2
   obtain ⟨e, he⟩ : ∃ e, es[i]? = some e := ⟨es[i]'(by omega), List.getElem?_eq_getElem (by omega)⟩
   -- all that it waits for is listed
   have hanc : ∀ j, Anc l j i → listed.getD j false = true := by
    intro j hj
    cases hj with
    | one _ o2 e2 ho2 he2 hb2 hi2 =>
     rw [ho'] at ho2; cases ho2
     rw [← hi2]; exact hafter e2 he2 hb2
    | more _ o2 e2 ho2 he2 hb2 h3 =>
     rw [ho'] at ho2; cases ho2
     exact down listed hd j e2.on h3 (hafter e2 he2 hb2)
   -- whoever clashes with it is listed just if it stands ahead of it
   have agree : ∀ j ej, es[j]? = some ej → (j ≠ i → clash e ej = true ∧ clash ej e = true) → listed.getD (0 + j) false = Nat.blt (0 + j) (0 + i) := by
    intro j ej hj hcl
    simp only [Nat.zero_add]
    by_cases hji : j = i
    ·subst hji; rw [hiF]; simp [Nat.blt_eq, Bool.eq_false_iff]
    ·obtain ⟨c1, c2⟩ := hcl hji
     rcases Nat.lt_or_gt_of_ne hji with hlt | hlt
     ·rw [hanc j (hClash j i ej e hlt hj he c2)]
      rw [eq_comm]; simpa [Nat.blt_eq] using hlt
     ·have hA := hClash i j e ej hlt he hj c1
      have : listed.getD j false = false := by
       cases hb : listed.getD j false with
       | false => rfl
       | true => have := down listed hd i j hA hb; rw [hiF] at this; cases this
      rw [this]; symm; rw [Bool.eq_false_iff]; simp [Nat.blt_eq]; omega
   have clT : ∀ (t : Nat) (a b : Eff), t ∈ wT a → (t ∈ wT b ∨ t ∈ rT b) → clash a b = true ∧ clash b a = true := by
    intro t a b ha hb
    constructor
    ·simp only [clash, Bool.or_eq_true, List.any_eq_true]
     exact .inl (.inl (.inl ⟨t, ha, by simpa using hb⟩))
    ·rcases hb with hb | hb
     ·simp only [clash, Bool.or_eq_true, List.any_eq_true]
      exact .inl (.inl (.inl ⟨t, hb, by simp [ha]⟩))
     ·simp only [clash, Bool.or_eq_true, List.any_eq_true]
      exact .inl (.inl (.inr ⟨t, ha, by simpa using hb⟩))
   have clH : ∀ (t : Nat) (a b : Eff), t ∈ wH a → (t ∈ wH b ∨ t ∈ rH b) → clash a b = true ∧ clash b a = true := by
    intro t a b ha hb
    constructor
    ·simp only [clash, Bool.or_eq_true, List.any_eq_true]
     exact .inl (.inr ⟨t, ha, by simpa using hb⟩)
    ·rcases hb with hb | hb
     ·simp only [clash, Bool.or_eq_true, List.any_eq_true]
      exact .inl (.inr ⟨t, hb, by simp [ha]⟩)
     ·simp only [clash, Bool.or_eq_true, List.any_eq_true]
      exact .inr ⟨t, ha, by simpa using hb⟩
   have hhas0 := textOk_has es 0 m0 hT i e he
   rw [runP_take] at hhas0
   have hhas : Has e (runP (fun i => listed.getD i false) 0 es m0) := by
    refine ⟨HasT.iff.2 fun t x hx => ?_, HasH.iff.2 fun t x hx => ?_, HasN.iff.2 fun k hk => ?_⟩
    ·rw [runP_fr (q := fun j => Nat.blt j (0 + i)) es 0 m0 m0 rfl (fun j ej hj ht => agree j ej hj fun _ => (clT t ej e ht (.inr (List.mem_map.2 ⟨_, hx, rfl⟩))).symm)]
     exact HasT.iff.1 hhas0.1 t x hx
    ·rw [runP_hp (q := fun j => Nat.blt j (0 + i)) es 0 m0 m0 rfl (fun j ej hj ht => agree j ej hj fun _ => (clH t ej e ht (.inr (List.mem_map.2 ⟨_, hx, rfl⟩))).symm)]
     exact HasH.iff.1 hhas0.2.1 t x hx
    ·rw [runP_free (q := fun j => Nat.blt j (0 + i)) es 0 m0 m0 Iff.rfl (fun j ej hj ht => agree j ej hj fun _ => (clH k ej e (hNames ej (List.mem_of_getElem? hj) k ht) (.inl (hNames e (List.mem_of_getElem? he) k hk))).symm)]
     exact HasN.iff.1 hhas0.2.2 k hk
   have hstep := hfact i o e ho' he _ hhas
   have hset : ∀ j, (listed.setIfInBounds i true).getD j false = if j = i then true else listed.getD j false := by
    intro j
    simp only [Array.getD_eq_getD_getElem?, Array.getElem?_setIfInBounds]
    by_cases hji : j = i
    ·subst hji; simp [show j < listed.size by omega]
    ·rw [if_neg (fun e => hji e.symm), if_neg hji]
   -- the state behind it
   have himp : Imp c ((e.apply (runP (fun i => listed.getD i false) 0 es m0)).st n df next ys kt) ((runP (fun j => (listed.setIfInBounds i true).getD j false) 0 es m0).st n df next ys kt) := by
    have later : ∀ j ej, i < j → es[j]? = some ej → (clash e ej = true) → (listed.setIfInBounds i true).getD (0 + j) false = false := by
     intro j ej hlt hj c1
     rw [Nat.zero_add, hset, if_neg (by omega)]
     cases hb : listed.getD j false with
     | false => rfl
     | true => have := down listed hd i j (hClash i j e ej hlt he hj c1) hb; rw [hiF] at this; cases this
    refine imp_less rfl rfl rfl rfl (fun t x hx => ?_) (fun t x hx => ?_) (fun k hk => ?_)
    ·by_cases ht : t ∈ wT e
     ·have := runP_last (q := fun j => (listed.setIfInBounds i true).getD j false) es 0 i m0 (runP (fun i => listed.getD i false) 0 es m0) e he (by simp only [Nat.zero_add]; rw [hset, if_pos rfl]) ht (fun j ej hlt hj htj => later j ej hlt hj (clT t e ej ht (.inl htj)).1)
      exact this.symm.trans hx
     ·show look t (e.apply _).fr = some x
      rw [look_apply_fr ht, ← hx]
      refine (runP_fr es 0 m0 m0 rfl fun j ej hj htj => ?_).symm
      rw [hset, if_neg (fun e' => ?_)]
      rw [Nat.zero_add] at e'; subst e'
      rw [he] at hj; cases hj
      exact ht htj
    ·by_cases ht : t ∈ wH e
     ·have := runP_lastH (q := fun j => (listed.setIfInBounds i true).getD j false) es 0 i m0 (runP (fun i => listed.getD i false) 0 es m0) e he (by simp only [Nat.zero_add]; rw [hset, if_pos rfl]) ht (fun j ej hlt hj htj => later j ej hlt hj (clH t e ej ht (.inl htj)).1)
      exact this.symm.trans hx
     ·show look t (e.apply _).hp = some x
      rw [look_apply_hp ht, ← hx]
      refine (runP_hp es 0 m0 m0 rfl fun j ej hj htj => ?_).symm
      rw [hset, if_neg (fun e' => ?_)]
      rw [Nat.zero_add] at e'; subst e'
      rw [he] at hj; cases hj
      exact ht htj
    ·show k ∈ (e.apply _).free
     have hk' : k ∈ (runP (fun j => (listed.setIfInBounds i true).getD j false) 0 es m0).free := hk
     obtain ⟨_, hkn⟩ := runP_freeSub es 0 m0 hk'
     have hke : k ∉ e.names := hkn i e he (by simp only [Nat.zero_add]; rw [hset, if_pos rfl])
     rw [free_apply hke]
     refine (runP_free es 0 m0 m0 Iff.rfl fun j ej hj htj => ?_).1 hk'
     rw [hset, if_neg (fun e' => ?_)]
     rw [Nat.zero_add] at e'; subst e'
     rw [he] at hj; cases hj
     exact hke htj
   have hnext : ∀ a' w', Sim c ((e.apply (runP (fun i => listed.getD i false) 0 es m0)).st n df next ys kt) a' w' → wpAnyIn (FF ro) 0 P .any l.toArray Q fuel (listed.setIfInBounds i true) a' w' := by
    intro a' w' hs'
    refine ih _ a' w' (by simpa using hsz) ?_ ?_ (himp a' w' hs')
    ·intro j o2 e2 ho2 he2 hb2 hj
     rw [hset] at hj ⊢
     by_cases hon : e2.on = i
     ·rw [if_pos hon]
     ·rw [if_neg hon]
      by_cases hji : j = i
      ·subst hji
       rw [ho'] at ho2; cases ho2
       exact hafter e2 he2 hb2
      ·rw [if_neg hji] at hj
       exact hd j o2 e2 ho2 he2 hb2 hj
    ·have hsub : ((List.range l.length).filter fun j => !(listed.setIfInBounds i true).getD j true).length + 1 ≤ ((List.range l.length).filter fun j => !listed.getD j true).length := by
      have hg : ∀ j, j < l.length → (listed.setIfInBounds i true).getD j true = if j = i then true else listed.getD j true := by
       intro j hj
       rw [getD_tf _ j (by simp; omega), hset, getD_tf listed j (by omega)]
      have e1 : ((List.range l.length).filter fun j => !(listed.setIfInBounds i true).getD j true) = ((List.range l.length).filter fun j => !listed.getD j true).filter fun j => !(decide (j = i)) := by
       rw [List.filter_filter]
       refine List.filter_congr fun j hj => ?_
       rw [hg j (by simpa using hj)]
       by_cases hji : j = i <;> simp [hji]
      rw [e1]
      have hmem : i ∈ (List.range l.length).filter fun j => !listed.getD j true := List.mem_filter.2 ⟨by simpa using hil, by simp [h2]⟩
      generalize ((List.range l.length).filter fun j => !listed.getD j true) = L at hmem
      have : ∀ L : List Nat, i ∈ L → (L.filter fun j => !(decide (j = i))).length + 1 ≤ L.length := by
       intro L
       induction L with
       | nil => intro h; simp at h
       | cons x L ihL =>
        intro h
        by_cases hxi : x = i
        ·subst hxi
         have := List.length_filter_le (fun j => !(decide (j = x))) L
         simp; omega
        ·rcases List.mem_cons.1 h with h | h
         ·exact absurd h.symm hxi
         ·have := ihL h
          simp [hxi]; omega
      exact this L hmem
     omega
   obtain ⟨O, θ, hsAt⟩ := hs
   unfold wpOpIn
   rw [ho]
   rcases hstep with ⟨hg, hop⟩ | ⟨hg, hkt, heq⟩
   ·simp only [guard_wanted hsAt hg, if_true]
    exact hop a w ⟨O, θ, hsAt⟩ _ _ hnext
   ·simp only [guard_wanted hsAt hg, Bool.false_eq_true, if_false]
    refine ⟨fun f _ => trivial, hnext _ _ ?_⟩
    rw [heq]
    exact ⟨O, θ, hsAt.skipU _ (ktB_spec hkt)⟩
 rintro a w ⟨O, θ, hs⟩
 refine wpIn_region_any hm (key l.toArray.size _ a _ (by simp) ?_ ?_ ?_)
 ·intro j o e ho he hb hj
  simp [Array.getElem?_replicate] at hj
  split at hj <;> simp at hj
 ·have := List.length_filter_le (fun i => !(Array.replicate l.toArray.size false).getD i true) (List.range l.length)
  simpa using this
 ·have : runP (fun i => (Array.replicate l.toArray.size false).getD i false) 0 es m0 = m0 := by
   rw [runP_congr (q := fun _ => false) es 0 m0 (fun j _ => by simp [Array.getElem?_replicate]; split <;> rfl), runP_none]
  rw [this]
  exact ⟨O, θ, hs.grownNone ⟨rfl, rfl, rfl, Nat.le_refl _, fun _ _ _ => rfl⟩⟩
end
end Go.Abs

namespace Go.Abs
variable {G : List (Nat × List PV)}
open Go.RowKit
abbrev w_i64 (n : Int) : Int := IntKind.i64.wrap n
abbrev w_u8 (n : Int) : Int := IntKind.u8.wrap n
abbrev w_u64 (n : Int) : Int := IntKind.u64.wrap n
abbrev eI (n : Int) : List PV := [.int .i64 n]
abbrev eI_u8 (n : Int) : List PV := [.int .u8 n]
abbrev eB (b : Bool) : List PV := [.bool b]
abbrev eS (s : List UInt8) : List PV := [.str s]
abbrev eL {α : Type} (sz : Nat) (e : α → List PV) (l : List α) : List PV := [.vs sz (l.map e)]
theorem go_stop {R S : Type} {a : Option R} {k : S → Option R} {r : R} (h : Ctl.go (.stop a) k = some r) : a = some r := h
def Ctl.elim {R S β : Type} : Ctl R S → (R → β) → (S → β) → β
 | .stop r, f, _ => f r
 | .next s, _, g => g s
theorem elim_stop {R S β : Type} {v : R} {f : R → β} {g : S → β} {x : β} (h : Ctl.elim (.stop v) f g = x) : f v = x := h
theorem elim_next {R S β : Type} {v : S} {f : R → β} {g : S → β} {x : β} (h : Ctl.elim (.next v) f g = x) : g v = x := h
theorem room_str {n m : Nat} {u : Unit} (h : room ((n : Int) + (m : Int)) 1 = some u) : n + m ≤ 9223372036854775807 := by
 have := room_spec h
 omega
theorem or_one {P : Program} {T : Nat} {b : Bool} (h : oneB P T = true) : (oneB P T || b) = true := by rw [h]; rfl
theorem or_agg {P : Program} {T n : Nat} {a : Bool} (h : aggB P T n = true) : (a || aggB P T n) = true := by rw [h]; cases a <;> rfl
theorem Fn.nils {P : Program} {f : Nat} {args : List PV} {rs : List Res} (i sz : Nat) (hi : args[i]? = some (.vs sz [])) (h : Fn G P f args rs) : Fn G P f (args.set i .nils) rs := by
 intro w O vs hO hG hsz hrd
 refine h w O vs hO hG (by simpa using hsz) fun j p v hp hv => ?_
 by_cases hij : i = j
 ·subst hij
  have hlt : i < args.length := (List.getElem?_eq_some_iff.1 hi).1
  have := hrd i .nils v (by simp [hlt]) hv
  rw [hi] at hp; cases hp
  cases this
  exact .vs0 sz
 ·exact hrd j p v (by rw [List.getElem?_set_ne hij]; exact hp) hv
section
variable {ro : Option Nat} {P : Program} {c : Cx G} {s s' : St} {o : Oper} {d : Option Nat}
end
end Go.Abs
namespace Go.Abs
variable {G : List (Nat × List PV)}
structure A2 (α : Type) where
 a0 : α
 a1 : α
 deriving DecidableEq
structure A3 (α : Type) where
 a0 : α
 a1 : α
 a2 : α
 deriving DecidableEq
structure A4 (α : Type) where
 a0 : α
 a1 : α
 a2 : α
 a3 : α
 deriving DecidableEq
abbrev eA4 {α : Type} (e : α → List PV) (x : A4 α) : List PV := e x.a0 ++ (e x.a1 ++ (e x.a2 ++ e x.a3))
end Go.Abs
namespace Go.Abs
variable {G : List (Nat × List PV)}
theorem rnd_back {ro : Option Nat} {P : Program} {c : Cx G} {Q : Exit → Act → World → Prop} {s s' : St} {k : Code} {m : Nat} (h' : RndW ro P c k Q m s') (h : Imp c s s') : RndW ro P c k Q m s := rnd_imp h h'
end Go.Abs
namespace Go.Abs
variable {G : List (Nat × List PV)}
theorem step_on {ro : Option Nat} {P : Program} {c : Cx G} {all : List Oper} {o : Oper} {s s1 s' : St} (hg : Guard all s o true) (ho : OpOk ro P c o s s1) (he : s1 = s') : StepOk ro P c all o s s' := by
 subst he; exact .inl ⟨hg, ho⟩
theorem step_off {ro : Option Nat} {P : Program} {c : Cx G} {all : List Oper} {o : Oper} {s s' : St} (hg : Guard all s o false) (hk : ktB s o.dst = true) (he : s' = s.put o.dst (some (.tup []))) : StepOk ro P c all o s s' := .inr ⟨hg, hk, he⟩
end Go.Abs
namespace Go.Abs
variable {G : List (Nat × List PV)}
section
variable {ro : Option Nat} {P : Program} {c : Cx G} {s s' : St} {o : Oper} {d : Option Nat}
end
end Go.Abs
namespace Go.Abs
variable {G : List (Nat × List PV)}
def arrayB (P : Program) (T n e sz : Nat) : Bool := match P.underlying T with
 | some (.array m e') => (m == n && e' == e) && (match P.info? e with | some i => i.size == sz | none => false)
 | _ => false
theorem arrayB_spec {P : Program} {T n e sz : Nat} (h : arrayB P T n e sz = true) : ∃ i, P.underlying T = some (.array n e) ∧ P.info? e = some i ∧ i.size = sz := by
 unfold arrayB at h
 split at h
 ·rename_i m e' hu
  simp only [Bool.and_eq_true, beq_iff_eq] at h
  obtain ⟨⟨rfl, rfl⟩, h⟩ := h
  split at h
  ·rename_i i hi; exact ⟨i, hu, hi, by simpa using h⟩
  ·cases h
 ·cases h
def fieldTB (P : Program) (T f ft off : Nat) : Bool := match P.underlying T with
 | some (.struct fs) => match fs[f]? with
  | some fld => fld.type == ft && fld.offset == off
  | none => false
 | _ => false
theorem fieldTB_spec {P : Program} {T f ft off : Nat} (h : fieldTB P T f ft off = true) : ∃ fs fld, P.underlying T = some (.struct fs) ∧ fs[f]? = some fld ∧ fld.type = ft ∧ fld.offset = off := by
 unfold fieldTB at h
 split at h
 ·rename_i fs hu
  split at h
  ·rename_i fld hf
   simp only [Bool.and_eq_true, beq_iff_eq] at h
   exact ⟨fs, fld, hu, hf, h.1, h.2⟩
  ·cases h
 ·cases h
section
variable {ro : Option Nat} {P : Program} {c : Cx G} {s s' : St} {o : Oper} {d : Option Nat}
theorem run_arrayAt {T n e sz : Nat} (ht : arrayB P T n e sz = true) {k : IntKind} {m : Nat} (hm : Nat.blt m n = true) (w : World) (b off : Nat) :
  (Instr.indexAt T (.pointer (some ⟨b, off, none⟩)) (.int k (m : Int))).run P w = .ok (.pointer (some ⟨b, off + m * sz, none⟩)) w := by
 obtain ⟨i, h1, h2, h3⟩ := arrayB_spec ht
 have hm' : m < n := by simpa [Nat.blt_eq] using hm
 simp [Instr.indexAt, asIntOf, run_underlying h1, Instr.sureAddr, sizeOf, typeInfo, h2, h3, Addr.add_lit]
 intro h
 omega
theorem op_arr_vp {T n e sz m : Nat} {x y : Operand} {k : IntKind} {row r : List PV} (ho : o.op = .indexAddr T x y) (hx : ev s x = some (.pv (.vp row))) (hy : ev s y = some (.pv (.int k (m : Int)))) (ht : arrayB P T n e sz = true) (hm : Nat.blt m n = true) (hr : row.drop (m * sz) = r) (hd : o.dst = d) (hn : dOk s d = true) :
  OpOk ro P c o s (s.put d (some (.pv (.vp r)))) :=
 opOk_value hd hn (by rw [ho]; intro k h; cases h) fun a w O θ hs => by
  obtain ⟨b, off, us, hv, h1, h2, h3, h4, h5⟩ := rd_vp (ev_pv hs hx)
  subst hr
  refine ⟨.pointer (some ⟨b, off + m * sz, none⟩), by simp [execOp, ho, hv, ev_int hs hy, run_arrayAt ht hm], .pv _ _ (.vp _ b _ (fun j => us (m * sz + j)) h1 h2 (fun y hy => h3 y (List.mem_of_mem_drop hy)) (fun j hj => ?_) (fun j y hy => h5 _ y ?_))⟩
  ·rw [List.length_drop] at hj
   rw [Nat.add_assoc]
   exact h4 _ (by omega)
  ·rwa [List.getElem?_drop] at hy
theorem op_arr_lp {T n e sz m : Nat} {x y : Operand} {k : IntKind} {id off r : Nat} (ho : o.op = .indexAddr T x y) (hx : ev s x = some (.lp id off)) (hy : ev s y = some (.pv (.int k (m : Int)))) (ht : arrayB P T n e sz = true) (hm : Nat.blt m n = true) (hr : off + m * sz = r) (hd : o.dst = d) (hn : dOk s d = true) :
  OpOk ro P c o s (s.put d (some (.lp id r))) :=
 opOk_value hd hn (by rw [ho]; intro k h; cases h) fun a w O θ hs => by
  have h := ev_ok hs hx
  subst hr
  generalize hv : a.eval x = v at h
  cases h with
  | lp _ _ g h => exact ⟨_, by simp [execOp, ho, hv, ev_int hs hy, run_arrayAt ht hm], .lp _ _ g h⟩
theorem op_field1 {T f off : Nat} {ft : TypeId} {x : Operand} {ps : List PV} {p : PV} (ho : o.op = .field T x f) (hx : ev s x = some (.pv (.agg ps))) (hu : fieldTB P T f ft off = true) (ht : oneB P ft = true) (hp : ps[off]? = some p) (hd : o.dst = d) (hn : dOk s d = true) :
  OpOk ro P c o s (s.put d (some (.pv p))) := by
 obtain ⟨fs, fld, h1, h2, h3, h4⟩ := fieldTB_spec hu
 exact op_field_agg1 ho hx h1 h2 h3 h4 ht hp hd hn
end
end Go.Abs
namespace Go.Abs
variable {G : List (Nat × List PV)}
section
variable {α : Type} {f : α → List PV} {g : List α → List (List PV)}
theorem lenR (hm : ∀ l, g l = l.map f) {l : List α} : (g l).length = l.length := by rw [hm, List.length_map]
theorem idxR (hm : ∀ l, g l = l.map f) {l : List α} {n : Int} {y : α} (h : idx l n = some y) : idx (g l) n = some (f y) := by rw [hm]; exact idx_map f h
end
section
variable {ro : Option Nat} {P : Program} {c : Cx G} {s s' : St} {o : Oper} {d : Option Nat}
end
end Go.Abs
namespace Go.Abs
variable {G : List (Nat × List PV)}
end Go.Abs
namespace Go.Abs
variable {G : List (Nat × List PV)}
def Res.fz : Res → Res
 | .p x => .p x
 | .own _ sz rows => .p (.vs sz rows)
 | .clo _ _ _ _ _ => .p .nils
def Res.noclo : Res → Bool
 | .clo _ _ _ _ _ => false
 | _ => true
theorem ResOk.fz {w : World} {O : Nat → Prop} {lo : Nat} {r : Res} {v : Value} (hc : r.noclo = true) (h : ResOk w O lo r v) : ResOk w (fun g => O g ∧ g < lo) lo r.fz v := by
 cases r with
 | clo => cases hc
 | p x => exact Rd.mono (w := w) (w' := w) (O := O) (O' := fun g => O g ∧ g < lo) (Nat.le_refl _) (fun b _ hn => ⟨fun h2 => hn h2.1, rfl⟩) h
 | own e sz rows =>
  obtain ⟨⟨us, hown, hrd⟩, _, hg⟩ := h
  have hrd' : RowsRd w (fun g => O g ∧ g < lo) sz rows us := hrd.mono (Nat.le_refl _) (fun b _ hn => ⟨fun h2 => hn h2.1, rfl⟩)
  rcases hown.2 with ⟨rfl, h4⟩ | ⟨g, cap, cur, rfl, _, hgh, hnc, hcm, hcs, ht⟩
  ·have : rows = [] := List.eq_nil_of_length_eq_zero h4
   subst this
   exact Rd.vs0 sz
  ·have := rd_vs_of_rows hrd' hgh ht (fun h => by have := (hg g rfl).1; omega) hnc hcm
   exact this
theorem Fn.frozen {P : Program} {f : Nat} {args : List PV} {rs : List Res} (h : Fn G P f args rs) (hc : (rs.all Res.noclo) = true := by rfl) : Fn G P f args (rs.map Res.fz) := by
 have hc' : ∀ r ∈ rs, r.noclo = true := List.all_eq_true.1 hc
 intro w O vs hO hG hsz hrd
 refine (h w O vs hO hG hsz hrd).mono ?_
 rintro e w' ⟨v, O', rfl, hg, hOO, hr⟩
 refine ⟨v, fun g => O' g ∧ g < w.heap.size, rfl, hg, fun g hgg => ⟨hOO g hgg, hO g hgg⟩, ?_⟩
 match rs, hc', hr with
 | [r], hc', hr => exact ResOk.fz (hc' r (by simp)) hr
 | [], _, ⟨us, h1, h2, h3⟩ => exact ⟨us, h1, h2, fun i r u hr => by simp at hr⟩
 | r :: r' :: rs, hc', ⟨us, h1, h2, h3⟩ =>
  refine ⟨us, h1, by simpa using h2, fun i x u hx hu => ?_⟩
  have hx' : ((r :: r' :: rs).map Res.fz)[i]? = some x := hx
  rw [List.getElem?_map, Option.map_eq_some_iff] at hx'
  obtain ⟨r0, hr0, rfl⟩ := hx'
  exact ResOk.fz (hc' r0 (List.mem_of_getElem? hr0)) (h3 i r0 u hr0 hu)
end Go.Abs
namespace Go.Abs
variable {G : List (Nat × List PV)}
def A2.l {α : Type} (x : A2 α) : List α := [x.a0, x.a1]
def A3.l {α : Type} (x : A3 α) : List α := [x.a0, x.a1, x.a2]
def A4.l {α : Type} (x : A4 α) : List α := [x.a0, x.a1, x.a2, x.a3]
section
variable {ro : Option Nat} {P : Program} {c : Cx G} {s s' : St} {o : Oper} {d : Option Nat}
end
end Go.Abs
namespace Go.Abs
variable {G : List (Nat × List PV)}
section
variable {ro : Option Nat} {P : Program} {c : Cx G} {s s' : St} {o : Oper} {d : Option Nat}
end
end Go.Abs
namespace Go.Abs
variable {G : List (Nat × List PV)}
theorem flat_cut {α β : Type} {f : α → List β} {sz : Nat} (hf : ∀ z, (f z).length = sz) : ∀ (l : List α) (i : Nat) (z : α), l[i]? = some z → (((l.map f).flatten).drop (i * sz)).take sz = f z
 | [], i, z, h => by simp at h
 | x :: l, 0, z, h => by
  simp at h; subst h
  simp only [List.map_cons, List.flatten_cons, Nat.zero_mul, List.drop_zero]
  rw [List.take_append_of_le_length (by rw [hf]; exact Nat.le_refl _), List.take_of_length_le (by rw [hf]; exact Nat.le_refl _)]
 | x :: l, i + 1, z, h => by
  simp at h
  simp only [List.map_cons, List.flatten_cons]
  rw [show (i + 1) * sz = (f x).length + i * sz by rw [hf, Nat.add_mul, Nat.one_mul, Nat.add_comm], List.drop_append, List.drop_eq_nil_of_le (by omega), List.nil_append, Nat.add_sub_cancel_left]
  exact flat_cut hf l i z h
theorem arr_cellN {cells : List AV} {off n sz j : Nat} {α : Type} {l : List α} {f : α → List PV} {i : Int} {z : α} {p : PV} (hc : (cells.drop off).take (n * sz) = ((l.map f).flatten).map .pv) (hf : ∀ z, (f z).length = sz) (hl : l.length = n) (h : idx l i = some z) (hj : (f z)[j]? = some p) : cells[off + i.toNat * sz + j]? = some (.pv p) := by
 obtain ⟨i0, i1, i2⟩ := idx_spec h
 have hjz : j < sz := by have := (List.getElem?_eq_some_iff.1 hj).1; rw [hf] at this; exact this
 have hlt : i.toNat * sz + j < n * sz := index_lt (by omega) hjz
 have e : ((cells.drop off).take (n * sz))[i.toNat * sz + j]? = some (.pv p) := by
  rw [hc, List.getElem?_map]
  have h2 := flat_cut hf l i.toNat z i1
  have : (((l.map f).flatten).drop (i.toNat * sz)).take sz = f z := h2
  have h3 : ((((l.map f).flatten).drop (i.toNat * sz)).take sz)[j]? = some p := by rw [this]; exact hj
  rw [List.getElem?_take, if_pos hjz, List.getElem?_drop] at h3
  rw [h3]; rfl
 rw [List.getElem?_take, if_pos hlt, List.getElem?_drop] at e
 rw [Nat.add_assoc]; exact e
end Go.Abs
namespace Go.Abs
variable {G : List (Nat × List PV)}
section
variable {ro : Option Nat} {P : Program} {c : Cx G} {s s' : St} {o : Oper} {d : Option Nat}
theorem op_arr_lpN {T n e sz : Nat} {x y : Operand} {k : IntKind} {i : Int} {id off : Nat} {α : Type} {l : List α} {z : α} (ho : o.op = .indexAddr T x y) (hx : ev s x = some (.lp id off)) (hy : ev s y = some (.pv (.int k i))) (ht : arrayB P T n e sz = true) (hl : l.length = n) (hi : idx l i = some z) (hd : o.dst = d) (hn : dOk s d = true) :
  OpOk ro P c o s (s.put d (some (.lp id (off + i.toNat * sz)))) :=
 opOk_value hd hn (by rw [ho]; intro k h; cases h) fun a w O θ hs => by
  have h := ev_ok hs hx
  obtain ⟨i0, i1, i2⟩ := idx_spec hi
  have hm : i = ((i.toNat : Nat) : Int) := by omega
  have hlt : i.toNat < n := by omega
  generalize hv : a.eval x = v at h
  cases h with
  | lp _ _ g h =>
   have hrun := run_arrayAt (P := P) ht (k := k) (m := i.toNat) (by simpa [Nat.blt_eq] using hlt) w g off
   rw [← hm] at hrun
   exact ⟨_, by simp [execOp, ho, hv, ev_int hs hy, hrun], .lp _ _ g h⟩
end
end Go.Abs
namespace Go.Abs
variable {G : List (Nat × List PV)}
end Go.Abs

/- Plain helpers: indices, ranges, rounds. -/
namespace Go.Abs
variable {G : List (Nat × List PV)}
theorem w64 {n : Int} (h1 : -9223372036854775808 ≤ n) (h2 : n ≤ 9223372036854775807) : w_i64 n = n := by
 show IntKind.i64.wrap n = n
 unfold IntKind.wrap
 simp only [IntKind.bits, IntKind.signed]
 first | omega | (simp; omega) | skip
theorem idx_nat {α : Type} {l : List α} {k : Nat} : idx l (k : Int) = l[k]? := by simp [idx]
theorem idx_lt {α : Type} {l : List α} {k : Nat} (h : k < l.length) : idx l (k : Int) = some l[k] := by rw [idx_nat]; exact List.getElem?_eq_getElem h
theorem w64_succ {k m : Nat} (h : k < m) (hm : m ≤ 9223372036854775807) : w_i64 ((k : Int) + 1) = ((k + 1 : Nat) : Int) := by rw [w64 (by omega) (by omega)]; omega
theorem room_ok {n b : Int} (h : n * b ≤ 140737488355328) : room n b = some () := by unfold room; rw [if_pos h]
end Go.Abs
namespace Go.Abs
variable {G : List (Nat × List PV)}
theorem obs {α β : Type} (a : α) (f : α → Option β) : Option.bind (some a) f = f a := by rw [Option.bind_some]
end Go.Abs

/- Plain loops over lists. -/
namespace Go.Abs
variable {G : List (Nat × List PV)}
variable {α β S R T : Type}
end Go.Abs

/- A range over a function: the iterator's contract; the caller's rule. -/
namespace Go.Abs
variable {G : List (Nat × List PV)}
open Go.RowKit
structure Rel (O I : Nat → Prop) (w : World) (O' : Nat → Prop) (w' : World) : Prop where
 os : w'.os = w.os
 tape : w'.tape = w.tape
 output : w'.output = w.output
 size : w.heap.size ≤ w'.heap.size
 block : ∀ b, b < w.heap.size → (¬ O b ∨ I b) → w'.heap[b]? = w.heap[b]?
 o1 : ∀ g, O' g → O g ∨ w.heap.size ≤ g
 o2 : ∀ g, O g → I g → O' g
 olt : ∀ g, O' g → g < w'.heap.size
def YieldOk (P : Program) (l : Nat) (m : Nat) (rows : List (List PV)) (sp : Nat) (J : Nat → (Nat → Prop) → (Nat → Prop) → World → Prop) : Prop :=
 ∀ (k : Nat) (row : List PV) (W : World) (O I : Nat → Prop) (us : Array Value), J k O I W → rows[k]? = some row → k ≤ sp → row.length = m → us.size = m →
  (∀ (i : Nat) (p : PV) (u : Value), row[i]? = some p → us[i]? = some u → Rd W O p u) → (∀ g, O g → g < W.heap.size) → (∀ g, I g → O g) →
  ∃ fn tmps assign body, (Instr.yield l us).run P W = .ok (.round l fn tmps assign body) W ∧
   RoundIn (FF none) 0 P l fn tmps assign body W fun e W' => ∃ O', e = .returned (.bool (!(k == sp))) ∧ J (k + 1) O' I W' ∧ Rel O I W O' W'
def ItArgs (w : World) (O I : Nat → Prop) (pre : List PV) (bx : Option (TypeId × List PV)) (post : List PV) (vs : Array Value) : Prop :=
 match bx with
 | none => vs.size = pre.length ∧ ∀ (i : Nat) (p : PV) (v : Value), pre[i]? = some p → vs[i]? = some v → Rd w O p v
 | some (t, cells) => vs.size = pre.length + 1 + post.length ∧ (∀ (i : Nat) (p : PV) (v : Value), pre[i]? = some p → vs[i]? = some v → Rd w O p v) ∧
  (∀ (i : Nat) (p : PV) (v : Value), post[i]? = some p → vs[pre.length + 1 + i]? = some v → Rd w O p v) ∧
  ∃ g, vs[pre.length]? = some (.pointer (some ⟨g, 0, none⟩)) ∧ BlkOk w O (fun _ => none) (.pointer (some ⟨g, 0, none⟩)) (.box t (cells.map .pv)) ∧ O g ∧ I g
def It (G : List (Nat × List PV)) (P : Program) (f : FuncId) (m : Nat) (pre : List PV) (bx : Option (TypeId × List PV)) (post : List PV) (rows : List (List PV)) (sp : Nat) : Prop :=
 ∀ (l : Nat) (J : Nat → (Nat → Prop) → (Nat → Prop) → World → Prop) (_ : ∀ {k : Nat} {O I : Nat → Prop} {w : World} {O' I' : Nat → Prop} {w' : World}, J k O I w → Stp O I w O' I' w' → J k O' I' w') (_ : ∀ {k : Nat} {O I : Nat → Prop} {w : World}, J k O I w → GlobOk G w O)
  (w : World) (O I : Nat → Prop) (vs : Array Value), (∀ g, O g → g < w.heap.size) → (∀ g, I g → O g) → ItArgs w O I pre bx post vs → YieldOk P l m rows sp J → J 0 O I w →
  Calls P f (#[.func (.yield l) #[] #[]] ++ vs) w fun e w' => ∃ v O' I', e = .returned v ∧ J (min (sp + 1) rows.length) O' I' w'
structure ItCx (P : Program) (l m : Nat) (rows : List (List PV)) (sp : Nat) (c : Cx G) : Prop where
 y : YieldOk P l m rows sp c.J
 xk : ∀ g, c.X g → c.K g
section
variable {ro : Option Nat} {P : Program} {c : Cx G} {s s' : St} {o : Oper} {d : Option Nat}
theorem Rel.stp_hp {O I : Nat → Prop} {w : World} {O' : Nat → Prop} {w' : World} (h : Rel O I w O' w') : ∀ b, b < w.heap.size → ¬ O b → ¬ O' b ∧ w'.heap[b]? = w.heap[b]? :=
 fun b hb hn => ⟨fun h2 => by rcases h.o1 b h2 with h3 | h3; exact hn h3; omega, h.block b hb (.inl hn)⟩
theorem op_yield {fo : Operand} {xs : List Operand} {ts : Array TypeId} {l m sp : Nat} {rows : List (List PV)} {row : List PV} (hc : ItCx P l m rows sp c) (ho : o.op = .call { callee := .value fo, args := xs.toArray, argTypes := ts }) (hf : ev s fo = some (.pv (.yld l))) (hx : evl s xs = some (row.map .pv))
  (hm : row.length = m) (hr : rows[s.ys]? = some row) (hsp : s.ys ≤ sp) (hd : o.dst = d) (hn : dOk s d = true) : OpOk ro P c o s ({ s with ys := s.ys + 1 }.put d (some (.pv (.bool (!(s.ys == sp)))))) := by
 rintro a w ⟨O, θ, hs⟩ K Q hK
 obtain ⟨e1, e2⟩ := evl_ok hs hx
 have hfv := ev_pv hs hf
 generalize hfa : a.eval fo = fv at hfv
 cases hfv with
 | yld =>
  refine ⟨fun f _ => trivial, ?_⟩
  have hus : ((xs.map a.eval).toArray).size = m := by have := e1; simp at this; simp [this, hm]
  have hI : c.J s.ys O (fun g => Mine c s θ a.defers g ∧ O g) w := c.Jst hs.jn ⟨rfl, rfl, rfl, Nat.le_refl _, fun _ _ _ => rfl, fun g h => .inl h, fun g h _ => h, hs.olt, fun g h => .inl h.1⟩
  obtain ⟨fn, tmps, assign, body, hy, hround⟩ := hc.y s.ys row w O _ (xs.map a.eval).toArray hI hr hsp hm hus (fun i p u hp hu => by
   exact rda_pv (e2 i (.pv p) u (by rw [List.getElem?_map, hp]; rfl) (by simpa using hu))) hs.olt (fun g h => h.2)
  have hrun : (execOp a.eval o).run P w = .ok (.round l fn tmps assign body) w := by
   simp [execOp, ho, resolve, Deferred.ofValue, hfa, invoke, hy]
  rw [Oper.semAt_plain _ _ _ (by rw [ho]; intro k h; cases h), hrun]
  refine ⟨fun h => by simp [FF, Fence.wide] at h, ?_⟩
  refine RoundIn.mono (R := fun e W' => ∃ O', e = .returned (.bool (!(s.ys == sp))) ∧ c.J (s.ys + 1) O' (fun g => Mine c s θ a.defers g ∧ O g) W' ∧ Rel O (fun g => Mine c s θ a.defers g ∧ O g) w O' W') hround ?_
  rintro e w' ⟨O', rfl, hJ, hrel⟩
  have hO := hrel.stp_hp
  have hmine : ∀ g, Mine c s θ a.defers g → O g := by
   intro g hg
   rcases hg with hg | ⟨id, b, v, h1, h2, h3⟩ | ⟨d', h1, h2⟩
   ·exact hs.xo g (c.KX g hg)
   ·obtain ⟨v', hv', _, hgv⟩ := hs.hp id b h1
    rw [h2] at hv'; cases hv'
    exact (hgv g h3).1
   ·obtain ⟨D, rfl, _, hOD, _⟩ := hs.marks d' h1
    cases h2; exact hOD
  have h1 : SimAt c { s with ys := s.ys + 1 } O' θ a w' := by
   refine ⟨hs.size, hs.df, fun t x hx => (hs.fr t x hx).mono hrel.size hO (fun _ _ e => e), fun id b hb => ?_, hs.inj, hs.dom, hs.flt, hs.one, hrel.olt, ⟨hrel.os.trans hs.ext.os, hrel.tape.trans hs.ext.tape, hrel.output.trans hs.ext.output, Nat.le_trans hs.ext.size hrel.size, fun b hb hL => ?_⟩, fun g hg => hrel.o2 g (hs.xo g hg) ⟨.inl (hc.xk g hg), hs.xo g hg⟩, hs.xlt, hs.llt, fun d' hd' => ?_, fun g hg hlt => ?_, hs.kp, c.Jst hJ ⟨rfl, rfl, rfl, Nat.le_refl _, fun _ _ _ => rfl, fun g h => .inl h, fun g h _ => h, hrel.olt, fun g h => .inl ⟨h, hmine g h⟩⟩⟩
   ·obtain ⟨v, hv, hbo, hgv⟩ := hs.hp id b hb
    refine ⟨v, hv, hbo.mono hrel.size hO (fun _ _ e => e) (fun g hgg => hrel.block g (hgv g hgg).2.1 (.inr ⟨.inr (.inl ⟨id, b, v, hb, hv, hgg⟩), (hgv g hgg).1⟩)), fun g hgg => ?_⟩
    obtain ⟨g1, g2, g3⟩ := hgv g hgg
    exact ⟨hrel.o2 g g1 ⟨.inr (.inl ⟨id, b, v, hb, hv, hgg⟩), g1⟩, Nat.lt_of_lt_of_le g2 hrel.size, g3⟩
   ·rw [← hs.ext.block b hb hL]
    refine hrel.block b (Nat.lt_of_lt_of_le hb hs.ext.size) ?_
    by_cases hOb : O b
    ·right
     rcases hs.oc b hOb hb with hX | hL2
     ·exact ⟨.inl (hc.xk b hX), hOb⟩
     ·exact absurd hL2 hL
    ·exact .inl hOb
   ·obtain ⟨D, rfl, hD, hOD, h0⟩ := hs.marks d' hd'
    have hlt : D < w.heap.size := by
     rcases Nat.lt_or_ge D w.heap.size with h1 | h1
     ·exact h1
     ·rw [Array.getElem?_eq_none h1] at hD; cases hD
    have hm' : Mine c s θ a.defers D := .inr (.inr ⟨_, hd', rfl⟩)
    exact ⟨D, rfl, by rw [hrel.block D hlt (.inr ⟨hm', hOD⟩)]; exact hD, hrel.o2 D hOD ⟨hm', hOD⟩, h0⟩
   ·rcases hrel.o1 g hg with h | h
    ·exact hs.oc g h hlt
    ·have := hs.ext.size; omega
  subst hd
  exact hK _ _ ⟨O', θ, h1.put _ _ _ (dOk_lt (s := s) hn) (dOk_kt (s := s) hn) (.pv _ _ (.bool _))⟩
def ItPost (P : Program) (fn : Func) (c : Cx G) (k : Nat) : Exit → Act → World → Prop :=
 bodyPostM (FF none) 0 P fn fun e w' => ∃ v O' I', e = .returned v ∧ c.J k O' I' w'
theorem post_it {fn : Func} {k : Nat} {e : Exit} (hk : s.ys = k) (hr : fn.results = #[]) (he : e = .ret ∨ e = .normal) : Post c (ItPost P fn c k) e s := by
 rintro a w ⟨O, θ, hs⟩
 have key : LeavesInM (FF none) 0 P fn a.tmps (fun e w' => ∃ v O' I', e = .returned v ∧ c.J k O' I' w') a.defers .returning w := by
  refine leaves_marks a.defers a w rfl hs fun a' w' ht hs2 => ?_
  exact ⟨_, run_results (rvs := []) (us := []) hr (by simp), _, O, Mine c s θ a'.defers, rfl, by rw [← hk]; exact hs2.jn⟩
 rcases he with rfl | rfl
 ·exact key
 ·exact key
def itFr (l : Nat) (pre : List PV) (bx : Option (TypeId × List PV)) (post : List PV) : List (Nat × Option AV) :=
 (0, some (.pv (.yld l))) :: match bx with
  | none => argsFr 1 pre
  | some _ => (pre.length + 1, some (.lp 0 0)) :: (argsFr 1 pre ++ argsFr (pre.length + 2) post)
def itHp : Option (TypeId × List PV) → List (Nat × Option Blk)
 | none => []
 | some (t, cells) => [(0, some (.box t (cells.map .pv)))]
def itNext : Option (TypeId × List PV) → Nat
 | none => 0
 | some _ => 1
theorem look_append_or {α : Type} (t : Nat) (x : α) : ∀ (l m : List (Nat × Option α)), look t (l ++ m) = some x → look t l = some x ∨ look t m = some x
 | [], m, h => .inr h
 | (k, y) :: l, m, h => by
  simp only [List.cons_append, look_cons] at h ⊢
  split at h
  ·rename_i e; rw [if_pos e]; exact .inl h
  ·rename_i e; rw [if_neg e]; exact look_append_or t x l m h
theorem it_of_body {f : FuncId} {fn : Func} {code : Code} {n m : Nat} {pre post : List PV} {bx : Option (TypeId × List PV)} {rows : List (List PV)} {sp : Nat} (hf : P.funcs[f]? = some fn) (hb : fn.body = some code) (hn : fn.ntmps = n) (hl : Nat.ble (pre.length + post.length + 2) n = true)
  (h : ∀ l (c : Cx G), ItCx P l m rows sp c → AW none P c code (ItPost P fn c (min (sp + 1) rows.length)) { n := n, fr := itFr l pre bx post, hp := itHp bx, next := itNext bx }) : It G P f m pre bx post rows sp := by
 intro l J Jst JG w O I vs hO hI hargs hy hJ
 refine (callsIn_wide (n := 0)).1 (callsIn_of_wp_marks (F := FF none) hf hb trivial ?_)
 have hl' : pre.length + post.length + 2 ≤ n := Nat.le_of_ble_eq_true hl
 let c : Cx G := { w0 := w, L := O, X := fun _ => False, K := fun _ => False, J := J, Jst := Jst, JG := JG, KX := fun _ h => h, t0 := #[] }
 have hvs : vs.size ≤ pre.length + 1 + post.length := by
  cases bx with
  | none => have := hargs.1; omega
  | some b => obtain ⟨t, cells⟩ := b; have := hargs.1; omega
 refine h l c ⟨hy, fun g hg => hg⟩ _ w ?_
 have hget : ∀ t, t < vs.size → (#[Value.func (.yield l) #[] #[]] ++ vs ++ Array.replicate (fn.ntmps - (#[Value.func (.yield l) #[] #[]] ++ vs).size) undef).getD (t + 1) undef = vs.getD t undef := by
  intro t ht
  simp [Array.getElem?_append, ht]
 have hsize : (#[Value.func (.yield l) #[] #[]] ++ vs ++ Array.replicate (fn.ntmps - (#[Value.func (.yield l) #[] #[]] ++ vs).size) undef).size = n := by simp [hn]; omega
 have hget0 : (#[Value.func (.yield l) #[] #[]] ++ vs ++ Array.replicate (fn.ntmps - (#[Value.func (.yield l) #[] #[]] ++ vs).size) undef).getD 0 undef = .func (.yield l) #[] #[] := by
  simp [Array.getElem?_append]
 generalize (#[Value.func (.yield l) #[] #[]] ++ vs ++ Array.replicate (fn.ntmps - (#[Value.func (.yield l) #[] #[]] ++ vs).size) undef) = tm at hget hsize hget0
 have hargsfr : ∀ (ps : List PV) (k : Nat) (θ : Nat → Option Value), (∀ (i : Nat) (p : PV) (v : Value), ps[i]? = some p → vs[k + i]? = some v → Rd w O p v) → k + ps.length ≤ vs.size → ∀ t x, look t (argsFr (k + 1) ps) = some x → RdA w O θ x (tm.getD t undef) := by
  intro ps k θ hps hk t x hx
  obtain ⟨p, rfl, h1, h2⟩ := argsFr_look ps (k + 1) t x hx
  have hlt : t - (k + 1) < ps.length := (List.getElem?_eq_some_iff.1 h2).1
  have ht : t - 1 < vs.size := by omega
  have := hget (t - 1) ht
  rw [show t - 1 + 1 = t by omega] at this
  rw [this]
  have hv : vs[t - 1]? = some vs[t - 1] := by simp [ht]
  rw [show vs.getD (t - 1) undef = vs[t - 1] by simp [ht]]
  exact .pv _ _ (hps _ p _ h2 (by rw [show k + (t - (k + 1)) = t - 1 by omega]; exact hv))
 cases bx with
 | none =>
  obtain ⟨h1, h2⟩ := hargs
  refine ⟨O, fun _ => none, hsize, .nil, ?_, fun id b hb => (by simp [itHp, look] at hb), fun i j bi bj vi vj g hi => (by simp [itHp, look] at hi), fun id v hv => (by cases hv), fun k hk => (by cases hk), fun id v hv => (by cases hv), hO, ⟨rfl, rfl, rfl, Nat.le_refl _, fun _ _ _ => rfl⟩, fun g hg => hg.elim, fun g hg => hg.elim, hO, fun d hd => (by cases hd), fun g hg _ => .inr hg, fun t ht => (by cases ht), ?_⟩
  ·intro t x hx
   simp only [itFr, look_cons] at hx
   split at hx
   ·rename_i e; subst e; cases hx; rw [hget0]; exact .pv _ _ (.yld l)
   ·exact hargsfr pre 0 _ (fun i p v hp hv => h2 i p v hp (by simpa using hv)) (by omega) t x hx
  ·refine Jst hJ ⟨rfl, rfl, rfl, Nat.le_refl _, fun _ _ _ => rfl, fun g h => .inl h, fun g h _ => h, hO, fun g hI => ?_⟩
   rcases hI with hI | ⟨id, b, v, h1, _⟩ | ⟨d, hd, _⟩
   ·exact hI.elim
   ·simp [itHp, look] at h1
   ·cases hd
 | some b =>
  obtain ⟨t, cells⟩ := b
  obtain ⟨h1, h2, h3, g, h4, h5, h6, h7⟩ := hargs
  have hp0 : vs.getD pre.length undef = .pointer (some ⟨g, 0, none⟩) := by simp [h4]
  have hlk : ∀ id b, look id (itHp (some (t, cells))) = some b → id = 0 ∧ b = .box t (cells.map .pv) := by
   intro id b hb
   simp only [itHp, look_cons] at hb
   split at hb
   ·rename_i e; cases hb; exact ⟨e.symm, rfl⟩
   ·simp [look] at hb
  refine ⟨O, fun i => if i = 0 then some (.pointer (some ⟨g, 0, none⟩)) else none, hsize, .nil, ?_, fun id b hb => ?_, fun i j bi bj vi vj g hi hj _ _ _ _ => by rw [(hlk i bi hi).1, (hlk j bj hj).1], fun id v hv => ?_, fun k hk => (by cases hk), fun id v hv => ?_, hO, ⟨rfl, rfl, rfl, Nat.le_refl _, fun _ _ _ => rfl⟩, fun g hg => hg.elim, fun g hg => hg.elim, hO, fun d hd => (by cases hd), fun g hg _ => .inr hg, fun t ht => (by cases ht), ?_⟩
  ·intro t' x hx
   simp only [itFr, look_cons] at hx
   split at hx
   ·rename_i e; subst e; cases hx; rw [hget0]; exact .pv _ _ (.yld l)
   ·split at hx
    ·rename_i e; subst e; cases hx
     rw [hget _ (by omega), hp0]
     exact .lp _ _ g (by simp)
    ·rcases look_append_or _ _ _ _ hx with hx | hx
     ·exact hargsfr pre 0 _ (fun i p v hp hv => h2 i p v hp (by simpa using hv)) (by omega) t' x hx
     ·exact hargsfr post (pre.length + 1) _ h3 (by omega) t' x hx
  ·obtain ⟨rfl, rfl⟩ := hlk id b hb
   refine ⟨.pointer (some ⟨g, 0, none⟩), by simp, ?_, fun g' hg' => ?_⟩
   ·exact h5.mono (Nat.le_refl _) (fun b _ hn => ⟨hn, rfl⟩) (fun _ _ h => by cases h) (fun _ _ => rfl)
   ·cases hg'
    exact ⟨h6, hO g h6, fun h => absurd h6 h, fun h => h⟩
  ·split at hv
   ·rename_i e; subst e; exact ⟨Nat.zero_lt_one, by simp⟩
   ·cases hv
  ·split at hv
   ·cases hv; rfl
   ·cases hv
  ·refine Jst hJ ⟨rfl, rfl, rfl, Nat.le_refl _, fun _ _ _ => rfl, fun g h => .inl h, fun g h _ => h, hO, fun g' hI => ?_⟩
   rcases hI with hI | ⟨id, b, v, q1, q2, q3⟩ | ⟨d, hd, _⟩
   ·exact hI.elim
   ·obtain ⟨rfl, rfl⟩ := hlk id b q1
    simp at q2; subst q2; cases q3
    exact .inl h7
   ·cases hd
end
end Go.Abs

/- A range over a function: the caller's rule. -/
namespace Go.Abs
variable {G : List (Nat × List PV)}
open Go.RowKit
section
variable {X Q E : Type}
def runs (B : X → Q → Option (Ctl E Q)) : List X → Q → Option (Ctl E Q)
 | [], q => some (.next q)
 | x :: xs, q => Option.bind (B x q) fun r => Ctl.elim r (fun e => some (.stop e)) (fun q' => runs B xs q')
theorem runs_trace (B : X → Q → Option (Ctl E Q)) : ∀ (rows : List X) (q0 : Q) (lr : Ctl E Q), runs B rows q0 = some lr → ∃ (sp : Nat) (tr : Nat → Ctl E Q), tr 0 = .next q0 ∧ tr (min (sp + 1) rows.length) = lr ∧
  ∀ k, k < min (sp + 1) rows.length → ∃ x q, rows[k]? = some x ∧ tr k = .next q ∧ B x q = some (tr (k + 1)) ∧ ((k == sp) = true → ∃ e, tr (k + 1) = .stop e) ∧ ((k == sp) = false → ∃ q', tr (k + 1) = .next q')
 | [], q0, lr, h => by
  simp only [runs, Option.some.injEq] at h
  subst h
  exact ⟨0, fun _ => .next q0, rfl, by simp, fun k hk => by simp at hk⟩
 | x :: xs, q0, lr, h => by
  simp only [runs] at h
  obtain ⟨r, hr, h⟩ := bind_some h
  cases r with
  | stop e =>
   simp only [Ctl.elim, Option.some.injEq] at h
   subst h
   refine ⟨0, fun k => if k = 0 then .next q0 else .stop e, rfl, by simp, fun k hk => ?_⟩
   have : k = 0 := by simp at hk; omega
   subst this
   exact ⟨x, q0, rfl, rfl, by simpa using hr, fun _ => ⟨e, rfl⟩, fun h => by simp at h⟩
  | next q' =>
   simp only [Ctl.elim] at h
   obtain ⟨sp, tr, h0, h1, h2⟩ := runs_trace B xs q' lr h
   have hm : min (sp + 1 + 1) (x :: xs).length = min (sp + 1) xs.length + 1 := by simp only [List.length_cons]; omega
   refine ⟨sp + 1, fun k => match k with | 0 => .next q0 | k + 1 => tr k, rfl, by rw [hm]; exact h1, fun k hk => ?_⟩
   cases k with
   | zero => exact ⟨x, q0, rfl, rfl, by show B x q0 = some (tr 0); rw [h0]; exact hr, fun h => by simp at h, fun _ => ⟨q', h0⟩⟩
   | succ k =>
    obtain ⟨x', q2, k1, k2, k3, k4, k5⟩ := h2 k (by omega)
    refine ⟨x', q2, by simpa using k1, k2, k3, fun h => k4 (by simpa using h), fun h => k5 (by simpa using h)⟩
end
def psFr : List Nat → List PV → List (Nat × Option AV)
 | t :: ts, p :: ps => (t, some (.pv p)) :: psFr ts ps
 | _, _ => []
def St.round (s : St) (ps : List Nat) (row : List PV) (kt : List Nat) : St := { s with fr := psFr ps row ++ s.fr, kt := kt }
def St.kept (s : St) (kt : List Nat) : St := { s with kt := kt }
def RndPost {Q E : Type} (c : Cx G) (S : Q → St) (SE : E → Exit × St) (kt : List Nat) (r : Ctl E Q) : Exit → Act → World → Prop
 | .normal, a, w => ∃ q, r = .next q ∧ Sim c ((S q).kept kt) a w
 | .ret, a, w => ∃ e, r = .stop e ∧ (SE e).1 = .ret ∧ Sim c ((SE e).2.kept kt) a w
 | .exit id, a, w => ∃ e, r = .stop e ∧ (SE e).1 = .exit id ∧ Sim c ((SE e).2.kept kt) a w
 | _, _, _ => False
def inKt (kt : List Nat) : List (Nat × Option AV) → Bool
 | [] => true
 | (t, some _) :: l => kt.elem t && inKt kt l
 | (_, none) :: l => inKt kt l
theorem inKt_spec {kt : List Nat} : ∀ {l : List (Nat × Option AV)}, inKt kt l = true → ∀ t x, look t l = some x → t ∈ kt
 | [], _, t, x, h => by simp [look] at h
 | (k, none) :: l, h, t, x, hx => by
  rw [look_cons] at hx
  split at hx
  ·cases hx
  ·exact inKt_spec (l := l) h t x hx
 | (k, some y) :: l, h, t, x, hx => by
  simp only [inKt, Bool.and_eq_true] at h
  rw [look_cons] at hx
  split at hx
  ·rename_i e; subst e; simpa using h.1
  ·exact inKt_spec h.2 t x hx
structure LpSt (s : St) (kk : List Nat) (s1 : St) : Prop where
 n : s1.n = s.n
 kt : s1.kt = s.kt
 free : s1.free = []
 fr : inKt kk s1.fr = true
structure CxR (c c' : Cx G) : Prop where
 J : c'.J = c.J
 xk : (∀ g, c.X g → c.K g) → ∀ g, c'.X g → c'.K g
def LessF (fr : List (Nat × Option AV)) : List (Nat × Option AV) → Prop
 | [] => True
 | (_, none) :: l => LessF fr l
 | (t, some x) :: l => look t fr = some x ∧ LessF fr l
theorem LessF.spec {fr : List (Nat × Option AV)} : ∀ {l : List (Nat × Option AV)}, LessF fr l → ∀ t x, (t, some x) ∈ l → look t fr = some x
 | (_, none) :: l, h, t, x, hm => by
  rcases List.mem_cons.1 hm with h1 | h1
  ·cases h1
  ·exact LessF.spec (l := l) h t x h1
 | (t', some x') :: l, h, t, x, hm => by
  rcases List.mem_cons.1 hm with h1 | h1
  ·cases h1; exact h.1
  ·exact LessF.spec (l := l) h.2 t x h1
def neB : Option Nat → Nat → Bool
 | none, _ => true
 | some k, id => !Nat.beq k id
def LessH (hp : List (Nat × Option Blk)) (nx : Nat) (kk : Option Nat) : List (Nat × Option Blk) → Prop
 | [] => True
 | (_, none) :: l => LessH hp nx kk l
 | (id, some b) :: l => (look id hp = some b ∧ Nat.blt id nx = true ∧ neB kk id = true) ∧ LessH hp nx kk l
theorem LessH.spec {hp : List (Nat × Option Blk)} {nx : Nat} {kk : Option Nat} : ∀ {l : List (Nat × Option Blk)}, LessH hp nx kk l → ∀ t x, (t, some x) ∈ l → look t hp = some x ∧ t < nx ∧ kk ≠ some t
 | (_, none) :: l, h, t, x, hm => by
  rcases List.mem_cons.1 hm with h1 | h1
  ·cases h1
  ·exact LessH.spec (l := l) h t x h1
 | (t', some x') :: l, h, t, x, hm => by
  rcases List.mem_cons.1 hm with h1 | h1
  ·cases h1
   obtain ⟨h1, h2, h3⟩ := h.1
   refine ⟨h1, by simpa [Nat.blt_eq] using h2, ?_⟩
   rintro rfl
   simp [neB] at h3
  ·exact LessH.spec (l := l) h.2 t x h1
structure RSt (c : Cx G) (s1 : St) (O I : Nat → Prop) (θ : Nat → Option Value) (a1 : Act) (w : World) (l : Nat) (rec : Loop) : Prop where
 sim : SimAt c s1 O θ a1 w
 jn : c.J s1.ys O (fun g => Mine c s1 θ a1.defers g ∨ I g ∨ g = l) w
 apart : ∀ g, HpB s1 θ g ∨ DfB a1.defers g ∨ g = l → ¬ I g
 ix : ∀ g, I g → ¬ c.X g
 ol : O l
 hl : w.heap[l]? = some (.loop rec)
 lw : c.w0.heap.size ≤ l
theorem heap_lt {w : World} {g : Nat} {o : Obj} (h : w.heap[g]? = some o) : g < w.heap.size := by
 rcases Nat.lt_or_ge g w.heap.size with h1 | h1
 ·exact h1
 ·rw [Array.getElem?_eq_none h1] at h; cases h
section
variable {c : Cx G} {s1 : St} {O I : Nat → Prop} {θ : Nat → Option Value} {a1 : Act} {w : World} {l : Nat} {rec : Loop}
theorem RSt.hp_lt (h : RSt c s1 O I θ a1 w l rec) {g : Nat} (hg : HpB s1 θ g ∨ DfB a1.defers g ∨ g = l) : g < w.heap.size ∧ O g := by
 rcases hg with ⟨id, b, v, h1, h2, h3⟩ | ⟨d, h1, h2⟩ | rfl
 ·obtain ⟨v', hv', _, hgv⟩ := h.sim.hp id b h1
  rw [h2] at hv'; cases hv'
  exact ⟨(hgv g h3).2.1, (hgv g h3).1⟩
 ·obtain ⟨D, rfl, hD, hOD, _⟩ := h.sim.marks d h1
  cases h2; exact ⟨heap_lt hD, hOD⟩
 ·exact ⟨heap_lt h.hl, h.ol⟩
theorem RSt.stp (h : RSt c s1 O I θ a1 w l rec) {O' I' : Nat → Prop} {w' : World} (hs : Stp O I w O' I' w') : RSt c s1 O' I' θ a1 w' l rec := by
 have hO : ∀ b, b < w.heap.size → ¬ O b → ¬ O' b ∧ w'.heap[b]? = w.heap[b]? := fun b hb hn => ⟨fun h2 => by rcases hs.o1 b h2 with h3 | h3; exact hn h3; omega, hs.block b hb (.inr hn)⟩
 have hkeep : ∀ g, HpB s1 θ g ∨ DfB a1.defers g ∨ g = l → w'.heap[g]? = w.heap[g]? ∧ O' g := fun g hg => ⟨hs.block g (h.hp_lt hg).1 (.inl (h.apart g hg)), hs.o2 g (h.hp_lt hg).2 (h.apart g hg)⟩
 have hj2 : c.J s1.ys O' (fun g => Mine c s1 θ a1.defers g ∨ I' g ∨ g = l) w' := by
  refine c.Jst h.jn ⟨hs.os, hs.tape, hs.output, hs.size, fun b hb hn => hs.block b hb ?_, hs.o1, fun g h1 h2 => hs.o2 g h1 (fun h3 => h2 (.inr (.inl h3))), hs.olt, fun g hg => ?_⟩
  ·rcases hn with hn | hn
   ·exact .inl fun h3 => hn (.inr (.inl h3))
   ·exact .inr hn
  ·rcases hg with hg | hg | hg
   ·exact .inl (.inl hg)
   ·rcases hs.i1 g hg with h3 | h3
    ·exact .inl (.inr (.inl h3))
    ·exact .inr h3
   ·exact .inl (.inr (.inr hg))
 have hsim := h.sim
 refine ⟨⟨hsim.size, hsim.df, fun t x hx => (hsim.fr t x hx).mono hs.size hO (fun _ _ e => e), fun id b hb => ?_, hsim.inj, hsim.dom, hsim.flt, hsim.one, hs.olt, ⟨hs.os.trans hsim.ext.os, hs.tape.trans hsim.ext.tape, hs.output.trans hsim.ext.output, Nat.le_trans hsim.ext.size hs.size, fun b hb hL => ?_⟩, fun g hg => hs.o2 g (hsim.xo g hg) (fun hI => h.ix g hI hg), hsim.xlt, hsim.llt, fun d hd => ?_, fun g hg hlt => ?_, hsim.kp, ?_⟩, hj2, ?_, ?_, (hkeep l (.inr (.inr rfl))).2, ?_, h.lw⟩
 ·obtain ⟨v, hv, hbo, hgv⟩ := hsim.hp id b hb
  refine ⟨v, hv, hbo.mono hs.size hO (fun _ _ e => e) (fun g hgg => (hkeep g (.inl ⟨id, b, v, hb, hv, hgg⟩)).1), fun g hgg => ?_⟩
  exact ⟨(hkeep g (.inl ⟨id, b, v, hb, hv, hgg⟩)).2, Nat.lt_of_lt_of_le (hgv g hgg).2.1 hs.size, (hgv g hgg).2.2⟩
 ·rw [← hsim.ext.block b hb hL]
  refine hs.block b (Nat.lt_of_lt_of_le hb hsim.ext.size) ?_
  by_cases hOb : O b
  ·rcases hsim.oc b hOb hb with hX | hL2
   ·exact .inl fun hI => h.ix b hI hX
   ·exact absurd hL2 hL
  ·exact .inr hOb
 ·obtain ⟨D, rfl, hD, hOD, h0⟩ := hsim.marks d hd
  have := hkeep D (.inr (.inl ⟨_, hd, rfl⟩))
  exact ⟨D, rfl, by rw [this.1]; exact hD, this.2, h0⟩
 ·rcases hs.o1 g hg with h1 | h1
  ·exact hsim.oc g h1 hlt
  ·have := hsim.ext.size; omega
 ·exact c.Jst hj2 ⟨rfl, rfl, rfl, Nat.le_refl _, fun _ _ _ => rfl, fun g h => .inl h, fun g h _ => h, hs.olt, fun g hg => .inl (.inl hg)⟩
 ·intro g hg hI
  rcases hs.i1 g hI with h1 | h1
  ·exact h.apart g hg h1
  ·have := (h.hp_lt hg).1; omega
 ·intro g hI hX
  rcases hs.i1 g hI with h1 | h1
  ·exact h.ix g h1 hX
  ·have := hsim.xlt g hX; have := hsim.ext.size; omega
 ·rw [(hkeep l (.inr (.inr rfl))).1]; exact h.hl
theorem RSt.turn (h : RSt c s1 O I θ a1 w l rec) (rec' : Loop) : RSt c s1 O I θ a1 (w.putObj l (.loop rec')) l rec' := by
 have hne : ∀ (g : Nat) (ob : Obj), w.heap[g]? = some ob → memB ob = true → (w.putObj l (.loop rec')).heap[g]? = w.heap[g]? := fun g ob hg ho => World.putObj_heap_other (fun e => by subst e; rw [h.hl] at hg; cases hg; cases ho)
 have hO : ∀ b, b < w.heap.size → ¬ O b → ¬ O b ∧ (w.putObj l (.loop rec')).heap[b]? = w.heap[b]? := fun b hb hn => ⟨hn, World.putObj_heap_other (fun e => hn (e ▸ h.ol))⟩
 have hsz : w.heap.size ≤ (w.putObj l (.loop rec')).heap.size := by simp
 have hj2 : c.J s1.ys O (fun g => Mine c s1 θ a1.defers g ∨ I g ∨ g = l) (w.putObj l (.loop rec')) := by
  refine c.Jst h.jn ⟨rfl, rfl, rfl, hsz, fun b hb hn => World.putObj_heap_other (fun e => ?_), fun g h => .inl h, fun g h _ => h, fun g hg => by simpa using h.sim.olt g hg, fun g hg => .inl hg⟩
  subst e
  rcases hn with hn | hn
  ·exact hn (.inr (.inr rfl))
  ·exact hn h.ol
 have hsim := h.sim
 refine ⟨⟨hsim.size, hsim.df, fun t x hx => (hsim.fr t x hx).mono hsz hO (fun _ _ e => e), fun id b hb => ?_, hsim.inj, hsim.dom, hsim.flt, hsim.one, fun g hg => by simpa using hsim.olt g hg, ⟨hsim.ext.os, hsim.ext.tape, hsim.ext.output, by simpa using hsim.ext.size, fun b hb hL => ?_⟩, hsim.xo, hsim.xlt, hsim.llt, fun d hd => ?_, hsim.oc, hsim.kp, ?_⟩, hj2, h.apart, h.ix, h.ol, World.putObj_heap_same (heap_lt h.hl), h.lw⟩
 ·obtain ⟨v, hv, hbo, hgv⟩ := hsim.hp id b hb
  exact ⟨v, hv, hbo.mono hsz hO (fun _ _ e => e) (fun g hgg => by obtain ⟨ob, hh, ho⟩ := hbo.cells hgg; exact hne g ob hh ho), fun g hgg => by simpa using hgv g hgg⟩
 ·rw [World.putObj_heap_other (by have := h.lw; omega)]
  exact hsim.ext.block b hb hL
 ·obtain ⟨D, rfl, hD, hOD, h0⟩ := hsim.marks d hd
  exact ⟨D, rfl, by rw [World.putObj_heap_other (fun e => by subst e; rw [h.hl] at hD; cases hD)]; exact hD, hOD, h0⟩
 ·exact c.Jst hj2 ⟨rfl, rfl, rfl, Nat.le_refl _, fun _ _ _ => rfl, fun g h => .inl h, fun g h _ => h, fun g hg => by simpa using hsim.olt g hg, fun g hg => .inl (.inl hg)⟩
end
end Go.Abs

/- A range over a function: one round; the statement. -/
namespace Go.Abs
variable {G : List (Nat × List PV)}
open Go.RowKit
theorem fold_set (ps : List Nat) : ∀ (us : List Value) (tm : Array Value), us.length = ps.length → ps.Nodup →
  ((ps.zip us).foldl (fun tm (t, u) => tm.setIfInBounds t u) tm).size = tm.size ∧ (∀ t, t ∉ ps → ((ps.zip us).foldl (fun tm (t, u) => tm.setIfInBounds t u) tm).getD t undef = tm.getD t undef) ∧
  ∀ (i t : Nat) (u : Value), ps[i]? = some t → us[i]? = some u → t < tm.size → ((ps.zip us).foldl (fun tm (t, u) => tm.setIfInBounds t u) tm).getD t undef = u := by
 induction ps with
 | nil => intro us tm _ _; exact ⟨rfl, fun _ _ => rfl, fun i t u h => by simp at h⟩
 | cons p ps ih =>
  intro us tm hl hnd
  cases us with
  | nil => simp at hl
  | cons u us =>
   simp only [List.zip_cons_cons, List.foldl_cons]
   obtain ⟨h1, h2, h3⟩ := ih us (tm.setIfInBounds p u) (by simpa using hl) (List.nodup_cons.1 hnd).2
   refine ⟨by rw [h1]; simp, fun t ht => ?_, fun i t v hi hv hlt => ?_⟩
   ·rw [h2 t (fun h => ht (List.mem_cons_of_mem _ h))]
    have hne : p ≠ t := fun e => ht (by simp [e])
    simp [Array.getElem?_setIfInBounds_ne hne]
   ·cases i with
    | zero =>
     simp at hi hv; subst hi; subst hv
     rw [h2 p (List.nodup_cons.1 hnd).1]
     simp [hlt]
    | succ i =>
     exact h3 i t v (by simpa using hi) (by simpa using hv) (by simpa using hlt)
theorem psFr_look : ∀ (ps : List Nat) (row : List PV) (t : Nat) (x : AV), look t (psFr ps row) = some x → ∃ (i : Nat) (p : PV), x = .pv p ∧ ps[i]? = some t ∧ row[i]? = some p
 | [], row, t, x, h => by simp [psFr, look] at h
 | _ :: _, [], t, x, h => by simp [psFr, look] at h
 | t' :: ps, p :: row, t, x, h => by
  simp only [psFr, look_cons] at h
  split at h
  ·rename_i e; subst e; cases h; exact ⟨0, p, rfl, rfl, rfl⟩
  ·obtain ⟨i, q, h1, h2, h3⟩ := psFr_look ps row t x h
   exact ⟨i + 1, q, h1, by simpa using h2, by simpa using h3⟩
theorem psFr_not {ps : List Nat} {row : List PV} {t : Nat} (h : ∀ (i t' : Nat), ps[i]? = some t' → i < row.length → t' ≠ t) (l : List (Nat × Option AV)) : look t (psFr ps row ++ l) = look t l := by
 induction ps generalizing row with
 | nil => rfl
 | cons p ps ih =>
  cases row with
  | nil => rfl
  | cons q row =>
   simp only [psFr, List.cons_append, look_cons]
   rw [if_neg (h 0 p rfl (by simp))]
   exact ih fun i t' hi hl => h (i + 1) t' (by simpa using hi) (by simpa using hl)
section
variable {X Q E : Type} {P : Program} {c : Cx G}
def jumpOf : Exit → Option Code
 | .ret => some .ret
 | .exit id => some (.exit id)
 | _ => none
def mkRec (fn : FuncId) (tmps : Array Value) (ps : Array Tmp) (asg body : Code) (D : Nat) (st : LoopState) (pe : Option Code) : Loop :=
 { state := st, pending := pe, fn, tmps, params := ps, assign := asg, body, defers := D }
def Cut1 (c : Cx G) (s1 : St) : Exit → Act → World → Prop
 | .normal, a, w => Sim c s1 a w
 | _, _, _ => False
theorem post_cut1 {c : Cx G} {s s1 : St} (hi : Imp c s s1) : Post c (Cut1 c s1) .normal s := fun a w hs => hi a w hs
def RTr (c : Cx G) (S : Q → St) (SE : E → Exit × St) (a1 : Act) (l : Nat) (rec : LoopState → Option Code → Loop) (r : Ctl E Q) (O I : Nat → Prop) (w : World) : Prop :=
 match r with
 | .next q => ∃ θ, RSt c (S q) O I θ a1 w l (rec .ready none)
 | .stop e => ∃ θ, RSt c (SE e).2 O I θ a1 w l (rec .done (jumpOf (SE e).1))
theorem SimAt.turned {c : Cx G} {s : St} {O : Nat → Prop} {θ : Nat → Option Value} {a : Act} {w : World} {l : Nat} {rec rec' : Loop} (hs : SimAt c s O θ a w) (hl : w.heap[l]? = some (.loop rec)) (hX : c.X l) (hK : c.K l) :
  SimAt { c with w0 := c.w0.putObj l (.loop rec') } s O θ a (w.putObj l (.loop rec')) := by
 have hol := hs.xo l hX
 have hlt := hs.xlt l hX
 have hO : ∀ b, b < w.heap.size → ¬ O b → ¬ O b ∧ (w.putObj l (.loop rec')).heap[b]? = w.heap[b]? := fun b hb hn => ⟨hn, World.putObj_heap_other (fun e => hn (e ▸ hol))⟩
 have hsz : w.heap.size ≤ (w.putObj l (.loop rec')).heap.size := by simp
 refine ⟨hs.size, hs.df, fun t x hx => (hs.fr t x hx).mono hsz hO (fun _ _ e => e), fun id b hb => ?_, hs.inj, hs.dom, hs.flt, hs.one, fun g hg => by simpa using hs.olt g hg, ⟨hs.ext.os, hs.ext.tape, hs.ext.output, by simpa using hs.ext.size, fun b hb hL => ?_⟩, hs.xo, fun g hg => by simpa using hs.xlt g hg, fun g hg => by simpa using hs.llt g hg, fun d hd => ?_, fun g hg hlt => hs.oc g hg (by simpa using hlt), hs.kp, ?_⟩
 ·obtain ⟨v, hv, hbo, hgv⟩ := hs.hp id b hb
  exact ⟨v, hv, hbo.mono hsz hO (fun _ _ e => e) (fun g hgg => World.putObj_heap_other (fun e => by obtain ⟨_, hh, ho⟩ := hbo.cells hgg; rw [e, hl] at hh; cases hh; cases ho)), fun g hgg => by simpa using hgv g hgg⟩
 ·by_cases hbl : b = l
  ·subst hbl
   rw [World.putObj_heap_same (heap_lt hl), World.putObj_heap_same hlt]
  ·rw [World.putObj_heap_other hbl, World.putObj_heap_other hbl]
   exact hs.ext.block b (by simpa using hb) hL
 ·obtain ⟨D, rfl, hD, hOD, h0⟩ := hs.marks d hd
  exact ⟨D, rfl, by rw [World.putObj_heap_other (fun e => by subst e; rw [hl] at hD; cases hD)]; exact hD, hOD, by simpa using h0⟩
 ·refine c.Jst hs.jn ⟨rfl, rfl, rfl, hsz, fun b hb hn => World.putObj_heap_other (fun e => ?_), fun g h => .inl h, fun g h _ => h, fun g hg => by simpa using hs.olt g hg, fun g hg => .inl hg⟩
  subst e
  rcases hn with hn | hn
  ·exact hn (.inl hK)
  ·exact hn hol
theorem round_ok {s : St} {kt psl : List Nat} {ps : Array Tmp} {asg body : Code} {fn : FuncId} {a0 a1 : Act} {D l : Nat} {S : Q → St} {SE : E → Exit × St} {q : Q} {r : Ctl E Q} {row : List PV} {W : World} {O I : Nat → Prop} {us : Array Value} (SA : St)
  (hpsl : ps = psl.toArray) (hnd : psl.Nodup) (hkp : (psl.all fun t => !kt.elem t && Nat.blt t s.n) = true)
  (hS : ∀ q, LpSt s kt (S q)) (hSE : ∀ e, LpSt s kt (SE e).2)
  (ha : a1.tmps = a0.tmps) (hsz : a0.tmps.size = s.n) (husz : us.size = psl.length)
  (hrd : ∀ (i : Nat) (p : PV) (u : Value), row[i]? = some p → us[i]? = some u → Rd W O p u) (hIO : ∀ g, I g → O g)
  (h : ∃ θ, RSt c (S q) O I θ a1 W l (mkRec fn a0.tmps ps asg body D .ready none))
  (hasg : ∀ c', CxR c c' → AW (some l) P c' asg (Cut1 c' SA) ((S q).round psl row kt))
  (hbody : ∀ c', CxR c c' → AW (some l) P c' body (RndPost c' S SE kt r) SA) :
  ∃ fn' tmps assign body', (Instr.yield l us).run P W = .ok (.round l fn' tmps assign body') W ∧
   RoundIn (FF none) 0 P l fn' tmps assign body' W fun e W' => ∃ O', e = .returned (.bool (match r with | .next _ => true | .stop _ => false)) ∧ RTr c S SE a1 l (mkRec fn a0.tmps ps asg body D) r O' I W' ∧ Rel O I W O' W' := by
 subst hpsl
 obtain ⟨θ, h⟩ := h
 have hy := run_yield (P := P) (args := us) h.hl (by simp [mkRec, husz])
 have hfold : (psl.toArray.zip us).foldl (fun tm (t, u) => tm.setIfInBounds t u) a0.tmps = (psl.zip us.toList).foldl (fun tm (t, u) => tm.setIfInBounds t u) a0.tmps := by
  rw [← Array.foldl_toList]
  simp [Array.toList_zip]
 have hul : us.toList.length = psl.length := by simpa using husz
 obtain ⟨f1, f2, f3⟩ := fold_set psl us.toList a0.tmps hul hnd
 rw [← hfold] at f1 f2 f3
 refine ⟨fn, _, asg, body, hy, roundIn_of_wpIn trivial ?_⟩
 simp only [mkRec]
 generalize (psl.toArray.zip us).foldl (fun tm (t, u) => tm.setIfInBounds t u) a0.tmps = tm at f1 f2 f3 ⊢
 have h2 := h.turn { (mkRec fn a0.tmps psl.toArray asg body D .ready none) with state := .busy }
 have hWs : (W.putObj l (.loop { (mkRec fn a0.tmps psl.toArray asg body D .ready none) with state := .busy })).heap.size = W.heap.size := by simp
 have hWb : ∀ b, b ≠ l → (W.putObj l (.loop { (mkRec fn a0.tmps psl.toArray asg body D .ready none) with state := .busy })).heap[b]? = W.heap[b]? := fun b hb => World.putObj_heap_other hb
 have hWos : (W.putObj l (.loop { (mkRec fn a0.tmps psl.toArray asg body D .ready none) with state := .busy })).os = W.os ∧ (W.putObj l (.loop { (mkRec fn a0.tmps psl.toArray asg body D .ready none) with state := .busy })).tape = W.tape ∧ (W.putObj l (.loop { (mkRec fn a0.tmps psl.toArray asg body D .ready none) with state := .busy })).output = W.output := ⟨rfl, rfl, rfl⟩
 generalize hW2 : W.putObj l (.loop { (mkRec fn a0.tmps psl.toArray asg body D .ready none) with state := .busy }) = W2 at *
 have hs := h2.sim
 let c' : Cx G := { w0 := W2, L := fun g => O g ∧ ¬ (c.X g ∨ I g ∨ DfB a1.defers g ∨ g = l), X := fun g => c.X g ∨ I g ∨ DfB a1.defers g ∨ g = l, K := fun g => c.K g ∨ I g ∨ DfB a1.defers g ∨ g = l, J := c.J, Jst := c.Jst, JG := c.JG, KX := fun g hg => hg.elim (fun h => .inl (c.KX g h)) (fun h => .inr h), t0 := a0.tmps }
 have hXO : ∀ g, c'.X g → O g := by
  intro g hg
  rcases hg with hg | hg | hg | hg
  ·exact hs.xo g hg
  ·exact hIO g hg
  ·exact (h2.hp_lt (.inr (.inl hg))).2
  ·exact (h2.hp_lt (.inr (.inr hg))).2
 have hpsk : ∀ (i t : Nat), psl[i]? = some t → t ∉ kt ∧ t < s.n := by
  intro i t hi
  have := List.all_eq_true.1 hkp t (List.mem_of_getElem? hi)
  simpa [Nat.blt_eq] using this
 have hcells : ∀ g, HpB (S q) θ g → ¬ c'.X g := by
  rintro g ⟨id, b, v, q1, q2, q3⟩ hX
  obtain ⟨v', hv', hbo, hgv⟩ := hs.hp id b q1
  rw [q2] at hv'; cases hv'
  obtain ⟨_, hcl, hmb⟩ := hbo.cells q3
  rcases hX with hX | hX | ⟨d, hd, hd2⟩ | hX
  ·exact (hgv g q3).2.2.2 hX
  ·exact h2.apart g (.inl ⟨id, b, v, q1, q2, q3⟩) hX
  ·obtain ⟨D', rfl, hD', _⟩ := hs.marks d hd
   cases hd2; rw [hD'] at hcl; cases hcl; cases hmb
  ·subst hX; rw [h2.hl] at hcl; cases hcl; cases hmb
 let c1 : Cx G := { c' with w0 := W }
 have hXlt : ∀ g, c'.X g → g < W.heap.size := fun g hg => by rw [← hWs]; exact hs.olt g (hXO g hg)
 have hstart : Sim c1 ((S q).round psl row kt) { tmps := tm, defers := [] } W := by
  refine ⟨O, θ, by show tm.size = (S q).n; rw [f1, hsz, (hS q).n], .nil, fun t x hx => ?_, fun id b hb => ?_, h.sim.inj, h.sim.dom, h.sim.flt, h.sim.one, h.sim.olt, ⟨rfl, rfl, rfl, Nat.le_refl _, fun _ _ _ => rfl⟩, hXO, fun g hg => h.sim.olt g (hXO g hg), fun g hg => h.sim.olt g hg.1, fun d hd => (by cases hd), fun g hg _ => ?_, fun t ht => ?_, ?_⟩
  ·by_cases hps : ∃ i : Nat, psl[i]? = some t
   ·obtain ⟨i, hi⟩ := hps
    have hx' : look t (psFr psl row ++ (S q).fr) = some x := hx
    rcases look_append_or _ _ _ _ hx' with hx2 | hx2
    ·obtain ⟨j, p, rfl, hj, hp⟩ := psFr_look _ _ _ _ hx2
     have hju : j < us.toList.length := by rw [hul]; exact (List.getElem?_eq_some_iff.1 hj).1
     have hu : us.toList[j]? = some us.toList[j] := List.getElem?_eq_getElem hju
     show RdA W O θ (.pv p) (tm.getD t undef)
     rw [f3 j t us.toList[j] hj hu (by rw [hsz]; exact (hpsk j t hj).2)]
     exact .pv _ _ (hrd j p _ hp (by simp))
    ·exact absurd (inKt_spec (hS q).fr t x hx2) (hpsk i t hi).1
   ·have hx' : look t (psFr psl row ++ (S q).fr) = some x := hx
    rw [psFr_not (ps := psl) (row := row) (t := t) (fun i t' hi _ e => hps ⟨i, by rw [← e]; exact hi⟩)] at hx'
    show RdA W O θ x (tm.getD t undef)
    rw [f2 t (fun hm => hps (by obtain ⟨i, hi⟩ := List.getElem?_of_mem hm; exact ⟨i, hi⟩)), ← ha]
    exact h.sim.fr t x hx'
  ·obtain ⟨v, hv, hbo, hgv⟩ := h.sim.hp id b hb
   refine ⟨v, hv, hbo, fun g hgg => ?_⟩
   have hX := hcells g ⟨id, b, v, hb, hv, hgg⟩
   exact ⟨(hgv g hgg).1, (hgv g hgg).2.1, fun hL => absurd ⟨(hgv g hgg).1, hX⟩ hL, hX⟩
  ·by_cases hX : c'.X g
   ·exact .inl hX
   ·exact .inr ⟨hg, hX⟩
  ·have : t ∉ psl := fun hm => by obtain ⟨i, hi⟩ := List.getElem?_of_mem hm; exact (hpsk i t hi).1 ht
   exact f2 t this
  ·refine c.Jst h.jn ⟨rfl, rfl, rfl, Nat.le_refl _, fun _ _ _ => rfl, fun g h => .inl h, fun g h _ => h, h.sim.olt, fun g hg => .inl ?_⟩
   rcases hg with (hg | hg | hg | hg) | hg | ⟨d, hd, _⟩
   ·exact .inl (.inl hg)
   ·exact .inr (.inl hg)
   ·exact .inl (.inr (.inr hg))
   ·exact .inr (.inr hg)
   ·exact .inl (.inr (.inl hg))
   ·cases hd
 have hcx : CxR c c' := ⟨rfl, fun hxk g hg => by
  rcases hg with hg | hg
  ·exact .inl (hxk g hg)
  ·exact .inr hg⟩
 -- behind the body
 have after : ∀ (s2 : St) (a2 : Act) (W3 : World), s2 = s2 → LpSt s kt s2 → Sim c' (s2.kept kt) a2 W3 → ∃ O' θ', Rel O I W O' W3 ∧ RSt c s2 O' I θ' a1 W3 l { (mkRec fn a0.tmps psl.toArray asg body D .ready none) with state := .busy } := by
  rintro s2 a2 W3 - hs2 ⟨O', θ', h3⟩
  have hsz3 : W2.heap.size ≤ W3.heap.size := h3.ext.size
  have hLX : ∀ g, c'.L g → O g ∧ ¬ c'.X g := fun g hg => hg
  have hXs : ∀ g, c'.X g → W3.heap[g]? = W2.heap[g]? ∧ O' g := fun g hg => ⟨h3.ext.block g (hs.olt g (hXO g hg)) (fun hL => (hLX g hL).2 hg), h3.xo g hg⟩
  have hO'O : ∀ g, O' g → g < W2.heap.size → O g := fun g hg hlt => by
   rcases h3.oc g hg hlt with hX | hL
   ·exact hXO g hX
   ·exact hL.1
  refine ⟨O', θ', ⟨h3.ext.os.trans hWos.1, h3.ext.tape.trans hWos.2.1, h3.ext.output.trans hWos.2.2, by rw [← hWs]; exact hsz3, fun b hb hn => ?_, fun g hg => ?_, fun g _ hI => (hXs g (.inr (.inl hI))).2, h3.olt⟩, ?_⟩
  ·have hb2 : W3.heap[b]? = W2.heap[b]? := h3.ext.block b (by rw [hWs]; exact hb) (fun hL => by
    rcases hn with hn | hn
    ·exact hn (hLX b hL).1
    ·exact (hLX b hL).2 (.inr (.inl hn)))
   rw [hb2]
   refine hWb b (fun e => ?_)
   subst e
   rcases hn with hn | hn
   ·exact hn h.ol
   ·exact h.apart b (.inr (.inr rfl)) hn
  ·rcases Nat.lt_or_ge g W2.heap.size with hlt | hge
   ·exact .inl (hO'O g hg hlt)
   ·exact .inr (by rw [← hWs]; exact hge)
  ·have hj2 : c.J s2.ys O' (fun g => Mine c s2 θ' a1.defers g ∨ I g ∨ g = l) W3 := by
    refine c.Jst h3.jn ⟨rfl, rfl, rfl, Nat.le_refl _, fun _ _ _ => rfl, fun g h => .inl h, fun g h _ => h, h3.olt, fun g hg => .inl ?_⟩
    rcases hg with (hg | hg | hg) | hg | hg
    ·exact .inl (.inl hg)
    ·exact .inr (.inl hg)
    ·exact .inl (.inr (.inr (.inl hg)))
    ·exact .inl (.inr (.inl hg))
    ·exact .inl (.inr (.inr (.inr hg)))
   have hhpX : ∀ g, HpB s2 θ' g → ¬ c'.X g ∧ (¬ c.L g → c.w0.heap.size ≤ g) ∧ O' g := by
    rintro g ⟨id, b, v, q1, q2, q3⟩
    obtain ⟨v', hv', hbo, hgv⟩ := h3.hp id b q1
    rw [q2] at hv'; cases hv'
    obtain ⟨g1, g2, g3, g4⟩ := hgv g q3
    refine ⟨g4, fun hcL => ?_, g1⟩
    rcases Nat.lt_or_ge g c.w0.heap.size with hlt | hge
    ·exfalso
     have hlt2 : g < W2.heap.size := Nat.lt_of_lt_of_le hlt hs.ext.size
     rcases hs.oc g (hO'O g g1 hlt2) hlt with hX | hL
     ·exact g4 (.inl hX)
     ·exact hcL hL
    ·exact hge
   refine ⟨⟨by rw [ha, hsz, hs2.n], hs.df, fun t x hx => ?_, fun id b hb => ?_, h3.inj, h3.dom, h3.flt, h3.one, h3.olt, ⟨h3.ext.os.trans hs.ext.os, h3.ext.tape.trans hs.ext.tape, h3.ext.output.trans hs.ext.output, Nat.le_trans hs.ext.size hsz3, fun b hb hL => ?_⟩, fun g hg => (hXs g (.inl hg)).2, hs.xlt, hs.llt, fun d hd => ?_, fun g hg hlt => hs.oc g (hO'O g hg (Nat.lt_of_lt_of_le hlt hs.ext.size)) hlt, ?_, ?_⟩, hj2, ?_, h2.ix, (hXs l (.inr (.inr (.inr rfl)))).2, ?_, h2.lw⟩
   ·have hk := h3.kp t (inKt_spec hs2.fr t x hx)
    have : a2.tmps.getD t undef = a0.tmps.getD t undef := hk
    rw [ha, ← this]
    exact h3.fr t x hx
   ·obtain ⟨v, hv, hbo, hgv⟩ := h3.hp id b hb
    refine ⟨v, hv, hbo, fun g hgg => ?_⟩
    obtain ⟨q1, q2, q3⟩ := hhpX g ⟨id, b, v, hb, hv, hgg⟩
    exact ⟨q3, (hgv g hgg).2.1, q2, fun hX => q1 (.inl hX)⟩
   ·rw [← hs.ext.block b hb hL]
    refine h3.ext.block b (Nat.lt_of_lt_of_le hb hs.ext.size) (fun hL2 => ?_)
    rcases hs.oc b (hLX b hL2).1 hb with hX | hL3
    ·exact (hLX b hL2).2 (.inl hX)
    ·exact hL hL3
   ·obtain ⟨D', rfl, hD', hOD', h0⟩ := hs.marks d hd
    have hX : c'.X D' := .inr (.inr (.inl ⟨_, hd, rfl⟩))
    exact ⟨D', rfl, by rw [(hXs D' hX).1]; exact hD', (hXs D' hX).2, h0⟩
   ·intro t ht
    rw [hs2.kt] at ht
    exact hs.kp t (by rw [(hS q).kt]; exact ht)
   ·exact c.Jst hj2 ⟨rfl, rfl, rfl, Nat.le_refl _, fun _ _ _ => rfl, fun g h => .inl h, fun g h _ => h, h3.olt, fun g hg => .inl (.inl hg)⟩
   ·intro g hg hI
    rcases hg with hg | hg | hg
    ·exact (hhpX g hg).1 (.inr (.inl hI))
    ·exact h2.apart g (.inr (.inl hg)) hI
    ·exact h2.apart g (.inr (.inr hg)) hI
   ·rw [(hXs l (.inr (.inr (.inr rfl)))).1]; exact h2.hl
 have fin : ∀ (s2 : St) (a2 : Act) (W3 : World) (jump : Option Code), LpSt s kt s2 → Sim c' (s2.kept kt) a2 W3 → ∃ O', (Instr.endRound l jump).run P W3 = .ok (.bool jump.isNone) (W3.putObj l (.loop (mkRec fn a0.tmps psl.toArray asg body D (if jump.isNone then .ready else .done) jump))) ∧
   Rel O I W O' (W3.putObj l (.loop (mkRec fn a0.tmps psl.toArray asg body D (if jump.isNone then .ready else .done) jump))) ∧ ∃ θ', RSt c s2 O' I θ' a1 (W3.putObj l (.loop (mkRec fn a0.tmps psl.toArray asg body D (if jump.isNone then .ready else .done) jump))) l (mkRec fn a0.tmps psl.toArray asg body D (if jump.isNone then .ready else .done) jump) := by
  intro s2 a2 W3 jump hs2 h3
  obtain ⟨O', θ', hrel, hst⟩ := after s2 a2 W3 rfl hs2 h3
  refine ⟨O', run_endRound jump hst.hl, ⟨hrel.os, hrel.tape, hrel.output, by simpa using hrel.size, fun b hb hn => ?_, hrel.o1, hrel.o2, fun g hg => by simpa using hrel.olt g hg⟩, θ', hst.turn _⟩
  rw [World.putObj_heap_other (fun e => ?_)]
  ·exact hrel.block b hb hn
  ·subst e
   rcases hn with hn | hn
   ·exact hn h.ol
   ·exact h.apart b (.inr (.inr rfl)) hn
 have hcx1 : CxR c c1 := ⟨rfl, hcx.xk⟩
 refine wpIn_mono (hasg c1 hcx1 _ _ hstart) ?_
 rintro e aA WA hA
 cases e with
 | exit id => exact hA.elim
 | ret => exact hA.elim
 | goto t => exact hA.elim
 | panic ch => exact hA.elim
 | outgrown => exact hA.elim
 | normal =>
 obtain ⟨OA, θA, hsA⟩ := hA
 have hXl : c1.X l := .inr (.inr (.inr rfl))
 have hlA : WA.heap[l]? = some (.loop (mkRec fn a0.tmps psl.toArray asg body D .ready none)) := by
  rw [hsA.ext.block l (heap_lt h.hl) (fun hL => hL.2 hXl)]; exact h.hl
 refine ⟨_, run_beginRound hlA rfl, ?_⟩
 have hsB := hsA.turned (rec' := { (mkRec fn a0.tmps psl.toArray asg body D .ready none) with state := .busy }) hlA hXl (.inr (.inr (.inr rfl)))
 have hc'' : ({ c1 with w0 := c1.w0.putObj l (.loop { (mkRec fn a0.tmps psl.toArray asg body D .ready none) with state := .busy }) } : Cx G) = c' := by
  show ({ c' with w0 := W.putObj l (.loop { (mkRec fn a0.tmps psl.toArray asg body D .ready none) with state := .busy }) } : Cx G) = c'
  rw [hW2]
 rw [hc''] at hsB
 refine wpIn_mono (hbody c' hcx _ _ ⟨OA, θA, hsB⟩) ?_
 rintro e a2 W3 hp
 cases e with
 | normal =>
  obtain ⟨q', rfl, hs3⟩ := hp
  obtain ⟨O', k1, k2, k3⟩ := fin _ a2 W3 none (hS q') hs3
  exact ⟨_, _, k1, O', rfl, k3, k2⟩
 | ret =>
  obtain ⟨e', rfl, he, hs3⟩ := hp
  obtain ⟨O', k1, k2, k3⟩ := fin _ a2 W3 (some .ret) (hSE e') hs3
  exact ⟨_, _, k1, O', rfl, by simpa [RTr, he, jumpOf] using k3, k2⟩
 | exit id =>
  obtain ⟨e', rfl, he, hs3⟩ := hp
  obtain ⟨O', k1, k2, k3⟩ := fin _ a2 W3 (some (.exit id)) (hSE e') hs3
  exact ⟨_, _, k1, O', rfl, by simpa [RTr, he, jumpOf] using k3, k2⟩
 | goto t => exact hp.elim
 | panic ch => exact hp.elim
 | outgrown => exact hp.elim
def GOk (s : St) (g : Operand) (f : Nat) (pre : List PV) (bx : Option (TypeId × List PV)) (post : List PV) : Option Nat → Prop
 | none => bx = none ∧ ev s g = some (.pv (.fn f pre))
 | some kk => ∃ t cells, bx = some (t, cells) ∧ ev s g = some (.fn f (pre.map .pv ++ (.lp kk 0 :: post.map .pv))) ∧ look kk s.hp = some (.box t (cells.map .pv))
theorem aw_rangeFunc {s : St} {kt psl : List Nat} {g : Operand} {ps : Array Tmp} {asg body : Code} {f m : Nat} {pre post : List PV} {bx : Option (TypeId × List PV)} {Qp : Exit → Act → World → Prop} (kk : Option Nat) (e : X → List PV) (rows : List X) (B : X → Q → Option (Ctl E Q)) (q0 : Q) (lr : Ctl E Q) (hL : runs B rows q0 = some lr)
  (S : Q → St) (SE : E → Exit × St) (hg : GOk s g f pre bx post kk) (hB : callB P f = true) (hit : ∀ sp, It G P f m pre bx post (rows.map e) sp) (_hem : ∀ x, (e x).length = m)
  (hpsl : ps = psl.toArray) (hm : psl.length = m) (hnd : psl.Nodup) (hkp : (psl.all fun t => !kt.elem t && Nat.blt t s.n) = true) (SA : X → Q → St) (hS : ∀ q, LpSt s kt (S q)) (hSE : ∀ e, LpSt s kt (SE e).2) (hjm : ∀ e, (jumpOf (SE e).1).isSome = true)
  (hys : (S q0).ys = s.ys) (hnx : (S q0).next = s.next) (hF : LessF s.fr (S q0).fr) (hH : LessH s.hp (S q0).next kk (S q0).hp)
  (hasg : ∀ l c' x q, CxR c c' → AW (some l) P c' asg (Cut1 c' (SA x q)) ((S q).round psl (e x) kt))
  (hbody : ∀ l c' x q r, CxR c c' → B x q = some r → AW (some l) P c' body (RndPost c' S SE kt r) (SA x q))
  (hN : ∀ q, lr = .next q → Post c Qp .normal (S q)) (hE : ∀ e, lr = .stop e → Post c Qp (SE e).1 (SE e).2) : AW none P c (.rangeFunc g ps asg body) Qp s := by
 rintro a0 w ⟨O, θ, hs⟩
 obtain ⟨sp, tr, t0, t1, t2⟩ := runs_trace B rows q0 lr hL
 refine wpIn_rangeFunc ?_
 intro fn _
 -- the closure
 have hclo : ∃ us : Array Value, a0.eval g = .func (.func f) #[] us ∧ ∃ I0 : Nat → Prop, (∀ g, I0 g → O g ∧ g < w.heap.size ∧ ¬ c.X g) ∧ ItArgs w O I0 pre bx post us ∧ ∀ g, I0 g → ∃ k b v, kk = some k ∧ look k s.hp = some b ∧ θ k = some v ∧ blkOf v = some g := by
  cases kk with
  | none =>
   obtain ⟨rfl, hv⟩ := hg
   have := ev_pv hs hv
   generalize a0.eval g = v at this
   cases this with
   | fn _ _ us hn hh => exact ⟨us, rfl, fun _ => False, fun _ h => h.elim, ⟨hn, hh⟩, fun _ h => h.elim⟩
  | some k =>
   obtain ⟨t, cells, rfl, hv, hk⟩ := hg
   have := ev_ok hs hv
   generalize a0.eval g = v at this
   cases this with
   | fn _ _ us hn hh =>
    obtain ⟨v', hv', hb, hgv⟩ := hs.hp k _ hk
    obtain ⟨gb, us', rfl, b1, b2, b3⟩ := hb
    obtain ⟨g1, g2, g3, g4⟩ := hgv gb rfl
    have hlen : us.size = pre.length + 1 + post.length := by rw [hn]; simp; omega
    have hu : us[pre.length]? = some us[pre.length] := by simp
    have hmid := hh pre.length (.lp k 0) _ (by simp) hu
    generalize us[pre.length] = up at hmid hu
    cases hmid with
    | lp _ _ g' hmid =>
     rw [hv'] at hmid; cases hmid
     refine ⟨us, rfl, fun g => g = gb, fun g hg => hg ▸ ⟨g1, g2, g4⟩, ⟨hlen, fun i p u hp hu => ?_, fun i p u hp hu => ?_, gb, hu, ⟨gb, us', rfl, b1, b2, fun j x u hx hu => ?_⟩, g1, rfl⟩, fun g hg => ⟨k, _, _, rfl, hk, hv', by rw [hg]; rfl⟩⟩
     ·have hi : i < pre.length := (List.getElem?_eq_some_iff.1 hp).1
      exact rda_pv (hh i (.pv p) u (by rw [List.getElem?_append_left (by simpa using hi), List.getElem?_map, hp]; rfl) hu)
     ·refine rda_pv (hh _ (.pv p) u ?_ hu)
      rw [List.getElem?_append_right (by simp; omega)]
      simp only [List.length_map]
      rw [show pre.length + 1 + i - pre.length = i + 1 by omega, List.getElem?_cons_succ, List.getElem?_map, hp]; rfl
     ·have := b3 j x u hx hu
      simp only [List.getElem?_map, Option.map_eq_some_iff] at hx
      obtain ⟨q, hq, rfl⟩ := hx
      exact ⟨.pv _ _ (rda_pv this.1), this.2⟩
 obtain ⟨us, hga, I0, hI0, hargs, hI0k⟩ := hclo
 obtain ⟨rec, hrec⟩ : ∃ rec : LoopState → Option Code → Loop, rec = mkRec fn a0.tmps ps asg body w.heap.size := ⟨_, rfl⟩
 obtain ⟨W1, hW1⟩ : ∃ W1, (w.alloc (.deferred (some []))).alloc (.loop (rec .ready none)) = W1 := ⟨_, rfl⟩
 have hsz1 : W1.heap.size = w.heap.size + 2 := by rw [← hW1]; simp
 have hL1 : W1.heap[w.heap.size + 1]? = some (.loop (rec .ready none)) := by
  rw [← hW1]; have := World.alloc_heap_new (w.alloc (.deferred (some []))) (.loop (rec .ready none)); rwa [World.size_alloc] at this
 have hK1 : W1.heap[w.heap.size]? = some (.deferred (some [])) := by
  rw [← hW1]; exact (Below.heap_alloc _ _ _ (by simp)).trans (World.alloc_heap_new w _)
 have hold : ∀ b, b < w.heap.size → W1.heap[b]? = w.heap[b]? := by
  intro b hb
  rw [← hW1]
  exact (Below.heap_alloc _ _ _ (by simp; omega)).trans (Below.heap_alloc _ _ _ (by omega))
 have hW1os : W1.os = w.os ∧ W1.tape = w.tape ∧ W1.output = w.output := by rw [← hW1]; exact ⟨rfl, rfl, rfl⟩
 refine ⟨w.heap.size + 1, [{ target := .collected w.heap.size, args := #[] }], W1, { target := .fn (.func f) us, args := #[.func (.yield (w.heap.size + 1)) #[] #[]] }, W1, f,
  #[.func (.yield (w.heap.size + 1)) #[] #[]] ++ us, W1, ?_, ?_, ?_, ?_, fun h => by simp [FF, Fence.wide] at h, ?_⟩
 ·rw [← hW1, hrec]; exact run_enterLoop_outer _ _ _ _ _
 ·simp only [resolve, hga]
  simp [go_sem]
 ·intro f' _; trivial
 ·simp [invoke, go_sem, callB_spec hB]
 let a1 : Act := { a0 with defers := [{ target := .collected w.heap.size, args := #[] }] ++ a0.defers }
 let O1 : Nat → Prop := fun g => O g ∨ g = w.heap.size ∨ g = w.heap.size + 1
 have hO1 : ∀ b, b < w.heap.size → ¬ O b → ¬ O1 b ∧ W1.heap[b]? = w.heap[b]? := fun b hb hn => ⟨fun h => by
  rcases h with h | h | h
  ·exact hn h
  ·omega
  ·omega, hold b hb⟩
 have hle : w.heap.size ≤ W1.heap.size := by omega
 have hltO1 : ∀ g, O1 g → g < W1.heap.size := fun g hg => by
  rcases hg with h | h | h
  ·have := hs.olt g h; omega
  ·omega
  ·omega
 have hlook : ∀ id b, look id (S q0).hp = some b → look id s.hp = some b ∧ id < (S q0).next ∧ kk ≠ some id := fun id b hb => hH.spec id b (look_mem hb)
 -- the values of the frame speak of names that are left
 have hj0 : c.J s.ys O1 (fun g => Mine c s θ a1.defers g ∨ g = w.heap.size + 1) W1 := by
  refine c.Jst hs.jn ⟨hW1os.1, hW1os.2.1, hW1os.2.2, hle, fun b hb _ => hold b hb, fun g hg => ?_, fun g h _ => .inl h, hltO1, fun g hg => ?_⟩
  ·rcases hg with h | h | h
   ·exact .inl h
   ·exact .inr (by omega)
   ·exact .inr (by omega)
  ·rcases hg with (h | h | ⟨d, h, h2⟩) | h
   ·exact .inl (.inl h)
   ·exact .inl (.inr (.inl h))
   ·rcases List.mem_cons.1 h with h3 | h3
    ·subst h3; cases h2; exact .inr (Nat.le_refl _)
    ·exact .inl (.inr (.inr ⟨d, h3, h2⟩))
   ·exact .inr (by omega)
 have hI0m : ∀ g, I0 g → Mine c s θ a1.defers g := fun g hg => by
  obtain ⟨k, b, v, _, h2, h3, h4⟩ := hI0k g hg
  exact .inr (.inl ⟨k, b, v, h2, h3, h4⟩)
 have hst0 : RSt c (S q0) O1 I0 θ a1 W1 (w.heap.size + 1) (rec .ready none) := by
  have hj2 : c.J (S q0).ys O1 (fun g => Mine c (S q0) θ a1.defers g ∨ I0 g ∨ g = w.heap.size + 1) W1 := by
   rw [hys]
   refine c.Jst hj0 ⟨rfl, rfl, rfl, Nat.le_refl _, fun _ _ _ => rfl, fun g h => .inl h, fun g h _ => h, hltO1, fun g hg => .inl ?_⟩
   rcases hg with (h | ⟨id, b, v, h1, h2, h3⟩ | h) | h | h
   ·exact .inl (.inl h)
   ·exact .inl (.inr (.inl ⟨id, b, v, (hlook id b h1).1, h2, h3⟩))
   ·exact .inl (.inr (.inr h))
   ·exact .inl (hI0m g h)
   ·exact .inr h
  refine ⟨⟨hs.size.trans (hS q0).n.symm, ?_, fun t x hx => (hs.fr t x (hF.spec t x (look_mem hx))).mono hle hO1 (fun _ _ e => e), fun id b hb => ?_, fun i j bi bj vi vj g hi hj => hs.inj i j bi bj vi vj g (hlook i bi hi).1 (hlook j bj hj).1, fun id v hv => ⟨by rw [hnx]; exact (hs.dom id v hv).1, by rw [(hS q0).free]; simp⟩, fun k hk => by rw [(hS q0).free] at hk; simp at hk, hs.one, hltO1, ⟨hW1os.1.trans hs.ext.os, hW1os.2.1.trans hs.ext.tape, hW1os.2.2.trans hs.ext.output, Nat.le_trans hs.ext.size hle, fun b hb hL => ?_⟩, fun g hg => .inl (hs.xo g hg), hs.xlt, hs.llt, fun d hd => ?_, fun g hg hlt => ?_, ?_, ?_⟩, hj2, ?_, fun g hg => (hI0 g hg).2.2, .inr (.inr rfl), hL1, Nat.le_succ_of_le hs.ext.size⟩
  ·refine List.nodup_cons.2 ⟨fun hm => ?_, hs.df⟩
   obtain ⟨D, he, hD, _⟩ := hs.marks _ hm
   cases he
   have := heap_lt hD; omega
  ·obtain ⟨h1, _, h3⟩ := hlook id b hb
   obtain ⟨v, hv, hbo, hgv⟩ := hs.hp id b h1
   exact ⟨v, hv, hbo.mono hle hO1 (fun _ _ e => e) (fun g hgg => hold g (hgv g hgg).2.1), fun g hgg => ⟨.inl (hgv g hgg).1, Nat.lt_of_lt_of_le (hgv g hgg).2.1 hle, (hgv g hgg).2.2⟩⟩
  ·rw [hold b (Nat.lt_of_lt_of_le hb hs.ext.size)]; exact hs.ext.block b hb hL
  ·rcases List.mem_cons.1 hd with h | h
   ·subst h; exact ⟨_, rfl, hK1, .inr (.inl rfl), hs.ext.size⟩
   ·obtain ⟨D, rfl, hD, hOD, h0⟩ := hs.marks d h
    exact ⟨D, rfl, by rw [hold D (heap_lt hD)]; exact hD, .inl hOD, h0⟩
  ·rcases hg with h | h | h
   ·exact hs.oc g h hlt
   ·have := hs.ext.size; omega
   ·have := hs.ext.size; omega
  ·intro t ht
   rw [(hS q0).kt] at ht
   exact hs.kp t ht
  ·exact c.Jst hj2 ⟨rfl, rfl, rfl, Nat.le_refl _, fun _ _ _ => rfl, fun g h => .inl h, fun g h _ => h, hltO1, fun g hg => .inl (.inl hg)⟩
  ·intro g hg hI
   obtain ⟨k, b, v, h1, h2, h3, h4⟩ := hI0k g hI
   have hglt := (hI0 g hI).2.1
   rcases hg with ⟨id, b', v', q1, q2, q3⟩ | ⟨d, hd, hd2⟩ | rfl
   ·obtain ⟨r1, _, r3⟩ := hlook id b' q1
    have := hs.inj id k b' b v' v g r1 h2 q2 h3 q3 h4
    subst this
    exact r3 h1
   ·obtain ⟨v2, hv2, hbo, _⟩ := hs.hp k b h2
    rw [h3] at hv2; cases hv2
    obtain ⟨_, hcl, hmb⟩ := hbo.cells h4
    rcases List.mem_cons.1 hd with h | h
    ·subst h; cases hd2; omega
    ·obtain ⟨D, rfl, hD, _⟩ := hs.marks d h
     cases hd2; rw [hD] at hcl; cases hcl; cases hmb
   ·omega
 have hJst : ∀ {k : Nat} {O I : Nat → Prop} {w' : World} {O' I' : Nat → Prop} {w'' : World}, RTr c S SE a1 (w.heap.size + 1) rec (tr k) O I w' → Stp O I w' O' I' w'' → RTr c S SE a1 (w.heap.size + 1) rec (tr k) O' I' w'' := by
  intro k O2 I2 w2 O3 I3 w3 h hstp
  generalize tr k = r at h ⊢
  cases r with
  | next q => obtain ⟨θ, h⟩ := h; exact ⟨θ, h.stp hstp⟩
  | stop e => obtain ⟨θ, h⟩ := h; exact ⟨θ, h.stp hstp⟩
 subst hrec
 have hJG : ∀ (k : Nat) {O I : Nat → Prop} {w' : World}, RTr c S SE a1 (w.heap.size + 1) (mkRec fn a0.tmps ps asg body w.heap.size) (tr k) O I w' → GlobOk G w' O := by
  intro k O I w' h
  unfold RTr at h
  split at h
  ·obtain ⟨θ, h⟩ := h; exact c.JG h.jn
  ·obtain ⟨θ, h⟩ := h; exact c.JG h.jn
 have hcall := hit sp (w.heap.size + 1) (fun k O I W => k ≤ min (sp + 1) rows.length ∧ RTr c S SE a1 (w.heap.size + 1) (mkRec fn a0.tmps ps asg body w.heap.size) (tr k) O I W) (fun h hstp => ⟨h.1, hJst h.2 hstp⟩) (fun {k O I W} h => hJG k h.2) W1 O1 I0 us hltO1 (fun g hg => .inl (hI0 g hg).1) ?_ ?_ ⟨Nat.zero_le _, by rw [t0]; exact ⟨θ, hst0⟩⟩
 ·refine CallsIn.mono (callsIn_wide (n := 0 - 1).2 hcall) ?_
  rintro e' w' ⟨v, O', I', rfl, -, hR⟩
  rw [List.length_map, t1] at hR
  cases lr with
  | next q =>
   obtain ⟨θ', hR⟩ := hR
   have hT := hR.turn { mkRec fn a0.tmps ps asg body w.heap.size .ready none with state := .exhausted }
   exact ⟨none, _, run_endLoop (P := P) hR.hl (by simp [mkRec]), hN q rfl a1 _ ⟨O', θ', hT.sim⟩⟩
  | stop ee =>
   obtain ⟨θ', hR⟩ := hR
   have hT := hR.turn { mkRec fn a0.tmps ps asg body w.heap.size .done (jumpOf (SE ee).1) with state := .exhausted }
   refine ⟨jumpOf (SE ee).1, _, run_endLoop (P := P) hR.hl (by simp [mkRec]), ?_⟩
   have hp := hE ee rfl a1 _ ⟨O', θ', hT.sim⟩
   have hj := hjm ee
   simp only [mkRec] at hp ⊢
   generalize (SE ee).1 = x at hp hj ⊢
   cases x with
   | ret => exact wpIn_ret hp
   | exit id => exact wpIn_exit hp
   | _ => simp [jumpOf] at hj
 ·have rdm : ∀ {p : PV} {v : Value}, Rd w O p v → Rd W1 O1 p v := fun h => h.mono hle hO1
  cases bx with
  | none => exact ⟨hargs.1, fun i p v hp hv => rdm (hargs.2 i p v hp hv)⟩
  | some b =>
   obtain ⟨t, cells⟩ := b
   obtain ⟨h1, h2, h3, g, h4, h5, h6, h7⟩ := hargs
   exact ⟨h1, fun i p v hp hv => rdm (h2 i p v hp hv), fun i p v hp hv => rdm (h3 i p v hp hv), g, h4, h5.mono hle hO1 (fun _ _ h => by cases h) (fun g' hg' => hold g' (by cases hg'; exact (hI0 g h7).2.1)), .inl h6, h7⟩
 ·rintro k row W O2 I2 us2 ⟨hk, hR⟩ hrow hksp hrl husz hrd hO2 hI2
  have hklt : k < min (sp + 1) rows.length := by
   have := (List.getElem?_eq_some_iff.1 hrow).1
   simp at this; omega
  obtain ⟨x, q, k1, k2, k3, k4, k5⟩ := t2 k hklt
  have : row = e x := by rw [List.getElem?_map, k1] at hrow; simpa using hrow.symm
  subst this
  rw [k2] at hR
  obtain ⟨θ2, hR⟩ := hR
  obtain ⟨fn2, tmps2, assign2, body2, r1, r2⟩ := round_ok (P := P) (s := s) (kt := kt) (psl := psl) (a0 := a0) (a1 := a1) (S := S) (SE := SE) (q := q) (r := tr (k + 1)) (row := e x) (D := w.heap.size) (fn := fn) (SA x q) hpsl hnd hkp hS hSE rfl hs.size (by rw [husz, hm]) hrd hI2 ⟨θ2, hR⟩ (fun c' hc' => hasg _ c' x q hc') (fun c' hc' => hbody _ c' x q _ hc' k3)
  refine ⟨fn2, tmps2, assign2, body2, r1, RoundIn.mono r2 ?_⟩
  rintro e' W' ⟨O', rfl, hT, hrel⟩
  refine ⟨O', ?_, ⟨hklt, hT⟩, hrel⟩
  cases hb : k == sp with
  | true => obtain ⟨ee, he⟩ := k4 hb; rw [he]; rfl
  | false => obtain ⟨q', hq⟩ := k5 hb; rw [hq]; rfl
end
end Go.Abs
namespace Go.Abs
variable {G : List (Nat × List PV)}
section
variable {P : Program} {c c' : Cx G} {s : St}
theorem ItCx.round {l m sp : Nat} {rows : List (List PV)} (h : ItCx P l m rows sp c) (hc : CxR c c') : ItCx P l m rows sp c' := ⟨by rw [hc.J]; exact h.y, hc.xk h.xk⟩
theorem post_rnd {Q E : Type} {S : Q → St} {SE : E → Exit × St} {kt : List Nat} {r : Ctl E Q} (q : Q) (hr : r = .next q) (hi : Imp c s ((S q).kept kt)) : Post c (RndPost c S SE kt r) .normal s := fun a w hs => ⟨q, hr, hi a w hs⟩
theorem post_rnd_exit {Q E : Type} {S : Q → St} {SE : E → Exit × St} {kt : List Nat} {r : Ctl E Q} {id : Nat} (e : E) (hr : r = .stop e) (he : (SE e).1 = .exit id) (hi : Imp c s ((SE e).2.kept kt)) : Post c (RndPost c S SE kt r) (.exit id) s := fun a w hs => ⟨e, hr, he, hi a w hs⟩
noncomputable def yck {X : Type} (rows : List X) (sp k : Nat) (x : X) : Option Unit :=
 haveI := Classical.propDecidable (rows[k]? = some x ∧ k ≤ sp)
 if rows[k]? = some x ∧ k ≤ sp then some () else none
theorem yck_spec {X : Type} {rows : List X} {sp k : Nat} {x : X} {u : Unit} (h : yck rows sp k x = some u) : rows[k]? = some x ∧ k ≤ sp := by
 unfold yck at h
 split at h
 ·assumption
 ·cases h
theorem yck_row {X : Type} {rows : List X} {sp k : Nat} {x : X} {u : Unit} (e : X → List PV) (h : yck rows sp k x = some u) : (rows.map e)[k]? = some (e x) := by rw [List.getElem?_map, (yck_spec h).1]; rfl
theorem yck_ok {X : Type} {rows : List X} {sp k : Nat} {x : X} (h1 : rows[k]? = some x) (h2 : k ≤ sp) : yck rows sp k x = some () := by unfold yck; rw [if_pos ⟨h1, h2⟩]
theorem it_len {k sp : Nat} {X : Type} {e : X → List PV} {rows : List X} (h : some k = some (min (sp + 1) rows.length)) : k = min (sp + 1) (rows.map e).length := by rw [List.length_map]; exact Option.some.inj h
end
end Go.Abs
namespace Go.Abs
variable {G : List (Nat × List PV)}
def CapF (id : Nat) (ps : List PV) : List AV → List AV → Prop
 | [], [] => True
 | x :: xs, y :: ys => (x = y ∨ (x = .lp id 0 ∧ y = .pv (.vp ps))) ∧ CapF id ps xs ys
 | _, _ => False
theorem CapF.spec {id : Nat} {ps : List PV} : ∀ {xs ys : List AV}, CapF id ps xs ys → xs.length = ys.length ∧ ∀ (i : Nat) (x y : AV), xs[i]? = some x → ys[i]? = some y → x = y ∨ (x = .lp id 0 ∧ y = .pv (.vp ps))
 | [], [], _ => ⟨rfl, fun i x y h => by simp at h⟩
 | x :: xs, y :: ys, h => by
  obtain ⟨h1, h2⟩ := CapF.spec h.2
  refine ⟨by simp [h1], fun i x' y' hx hy => ?_⟩
  cases i with
  | zero => simp at hx hy; subst hx; subst hy; exact h.1
  | succ i => exact h2 i x' y' (by simpa using hx) (by simpa using hy)
 | [], _ :: _, h | _ :: _, [], h => by simp [CapF] at h
theorem imp_freeze_cap {c : Cx G} {s : St} (t id : Nat) (caps' : List AV) {f T : Nat} {caps cells : List AV} {ps : List PV} (h : look t s.fr = some (.fn f caps)) (hb : look id s.hp = some (.box T cells)) (hps : pvs cells = some ps) (hone : ps.all PV.one = true) (hc : CapF id ps caps caps') :
  Imp c s { (s.freeze [(id, some (.box T cells))] []) with fr := (t, some (.fn f caps')) :: s.fr } := by
 rintro a w ⟨O, θ, hs⟩
 have hfz : ∀ x ∈ [(id, some (Blk.box T cells))], ∃ b, x.2 = some b ∧ look x.1 s.hp = some b := by
  intro x hx
  simp at hx; subst hx
  exact ⟨_, rfl, hb⟩
 have h' := hs.frozen [(id, some (.box T cells))] [] hfz trivial
 have hfz' : ∀ i b, look i [(id, some (Blk.box T cells))] = some b → look i s.hp = some b := by
  intro i b hl
  obtain ⟨b', h1, h2⟩ := hfz _ (look_mem hl)
  cases h1; exact h2
 refine ⟨_, θ, h'.size, h'.df, fun t' x hx => ?_, h'.hp, h'.inj, h'.dom, h'.flt, h'.one, h'.olt, h'.ext, h'.xo, h'.xlt, h'.llt, h'.marks, h'.oc, h'.kp, h'.jn⟩
 simp only [look_cons] at hx
 split at hx
 ·rename_i e; subst e; cases hx
  have hr := hs.fr _ _ h
  generalize a.tmps.getD t undef = v at hr
  obtain ⟨k1, k2⟩ := hc.spec
  cases hr with
  | fn _ _ us hn hh =>
   refine .fn _ _ us (by rw [hn, k1]) fun i y u hy hu => ?_
   have hi : i < caps.length := by rw [k1]; exact (List.getElem?_eq_some_iff.1 hy).1
   have hx := hh i caps[i] u (List.getElem?_eq_getElem hi) hu
   rcases k2 i caps[i] y (List.getElem?_eq_getElem hi) hy with e | ⟨e1, e2⟩
   ·rw [← e]
    exact hx.mono (Nat.le_refl _) (fun b _ hn => ⟨fun h => hn h.1, rfl⟩) (fun _ _ e => e)
   ·rw [e1] at hx
    subst e2
    cases hx with
    | lp _ _ g hx =>
     have := view_lp (off := 0) hs hfz' (O2 := fun g => O g ∧ ∀ id' b u, look id' s.hp = some b → (id', some b) ∈ [(id, some (Blk.box T cells))] → θ id' = some u → blkOf u ≠ some g) (fun g h => h.1) (fun i b u g q1 q2 q3 q4 => q4.2 i b u (hfz' _ _ q1) (look_mem q1) q2 q3) hx (show look id [(id, some (Blk.box T cells))] = some (.box T cells) by simp [look]) hps hone
     exact .pv _ _ this
 ·exact h'.fr t' x hx
end Go.Abs
namespace Go.Abs
variable {G : List (Nat × List PV)}
theorem vsR {α : Type} {f : α → List PV} {g : List α → List (List PV)} {w : World} {O : Nat → Prop} {cs : List Value} {sz : Nat} {l : List α} (hm : ∀ l, g l = l.map f) (h : Reads1 w O cs (eL sz f l)) : Reads1 w O cs [.vs sz (g l)] := by rw [hm]; exact h
end Go.Abs

/- Functions of the library that have no body. -/
namespace Go.Abs
variable {G : List (Nat × List PV)}
open Go.RowKit
section
variable {ro : Option Nat} {P : Program} {c : Cx G} {s : St} {o : Oper} {d : Option Nat}
end
end Go.Abs

/- Maps of the call's own, from strings to numbers. -/
namespace Go.Abs
variable {G : List (Nat × List PV)}
open Go.RowKit
section
variable {ro : Option Nat} {P : Program} {c : Cx G} {s : St} {o : Oper} {d : Option Nat}
end
end Go.Abs

/- Arrays: slices of them, elements at whatever place; slices without spare places. -/
namespace Go.Abs
variable {G : List (Nat × List PV)}
open Go.RowKit
section
variable {ro : Option Nat} {P : Program} {c : Cx G} {s s' : St} {o : Oper} {d : Option Nat}
end
def A2.set {α : Type} (x : A2 α) : Nat → α → A2 α
 | 0, v => ⟨v, x.a1⟩
 | _, v => ⟨x.a0, v⟩
def A3.set {α : Type} (x : A3 α) : Nat → α → A3 α
 | 0, v => ⟨v, x.a1, x.a2⟩
 | 1, v => ⟨x.a0, v, x.a2⟩
 | _, v => ⟨x.a0, x.a1, v⟩
def A4.set {α : Type} (x : A4 α) : Nat → α → A4 α
 | 0, v => ⟨v, x.a1, x.a2, x.a3⟩
 | 1, v => ⟨x.a0, v, x.a2, x.a3⟩
 | 2, v => ⟨x.a0, x.a1, v, x.a3⟩
 | _, v => ⟨x.a0, x.a1, x.a2, v⟩
end Go.Abs

/- Functions as values, with what they compute. -/
namespace Go.Abs
variable {G : List (Nat × List PV)}
open Go.RowKit
structure Clo (G : List (Nat × List PV)) (P : Program) (A R : Type) (ea : A → List PV) (er : R → List Res) where
 f : Nat
 c : List PV
 q : A → Option R
 b : callB P f = true
 h : ∀ (a : A) (r : R), q a = some r → Fn G P f (ea a ++ c) (er r)
end Go.Abs
namespace Go.Abs
variable {G : List (Nat × List PV)}
end Go.Abs

