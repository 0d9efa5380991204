/- The abstract layer that the proof stands on: no condition. -/
import Derived.Test.YtkfgkkbfipgklaaAbsN
namespace Go.Abs
open Go.RowKit

/-- What one operation of a region that draws its order wants, and what it does. -/
structure Eff where
  need : List (Nat × AV) := []
  hneed : List (Nat × Blk) := []
  names : List Nat := []
  dst : Option Nat := none
  val : Option AV := none
  upd : List (Nat × Option Blk) := []

/-- The part of a state that a region turns. -/
structure Mid where
  fr : List (Nat × Option AV)
  hp : List (Nat × Option Blk)
  free : List Nat

def Mid.st (m : Mid) (n : Nat) (df : List Deferred) (next : Nat) (ys : Nat) (kt : List Nat) : St := { n := n, fr := m.fr, hp := m.hp, next := next, df := df, free := m.free, ys := ys, kt := kt }

def Eff.apply (e : Eff) (m : Mid) : Mid :=
  { fr := match e.dst with | some d => (d, e.val) :: m.fr | none => m.fr, hp := e.upd ++ m.hp, free := match e.names with | [] => m.free | ns => m.free.filter fun x => !(ns.elem x) }

def HasT (fr : List (Nat × Option AV)) : List (Nat × AV) → Prop
  | [] => True
  | (t, x) :: l => look t fr = some x ∧ HasT fr l
def HasH (hp : List (Nat × Option Blk)) : List (Nat × Blk) → Prop
  | [] => True
  | (id, b) :: l => look id hp = some b ∧ HasH hp l
def HasN (free : List Nat) : List Nat → Prop
  | [] => True
  | k :: l => free.elem k = true ∧ HasN free l
def Has (e : Eff) (m : Mid) : Prop := HasT m.fr e.need ∧ HasH m.hp e.hneed ∧ HasN m.free e.names

theorem HasT.iff {fr : List (Nat × Option AV)} : ∀ {l : List (Nat × AV)}, HasT fr l ↔ ∀ t x, (t, x) ∈ l → look t fr = some x
  | [] => by simp [HasT]
  | (t, x) :: l => by
    simp only [HasT, HasT.iff (l := l), List.mem_cons]
    constructor
    · rintro ⟨h1, h2⟩ t' x' (h | h)
      · cases h; exact h1
      · exact h2 t' x' h
    · intro h
      exact ⟨h t x (.inl rfl), fun t' x' h' => h t' x' (.inr h')⟩
theorem HasH.iff {hp : List (Nat × Option Blk)} : ∀ {l : List (Nat × Blk)}, HasH hp l ↔ ∀ t x, (t, x) ∈ l → look t hp = some x
  | [] => by simp [HasH]
  | (t, x) :: l => by
    simp only [HasH, HasH.iff (l := l), List.mem_cons]
    constructor
    · rintro ⟨h1, h2⟩ t' x' (h | h)
      · cases h; exact h1
      · exact h2 t' x' h
    · intro h
      exact ⟨h t x (.inl rfl), fun t' x' h' => h t' x' (.inr h')⟩
theorem HasN.iff {free : List Nat} : ∀ {l : List Nat}, HasN free l ↔ ∀ k ∈ l, k ∈ free
  | [] => by simp [HasN]
  | k :: l => by simp [HasN, HasN.iff (l := l)]

section
variable (ro : Option Nat) (P : Program) (c : Cx)
/-- One operation: carried out, or passed over. -/
def StepOk (all : List Oper) (o : Oper) (s s' : St) : Prop := (Guard all s o true ∧ OpOk ro P c o s s') ∨ (Guard all s o false ∧ ktB s o.dst = true ∧ s' = s.put o.dst (some (.tup [])))

/-- Each operation does what its effect says, in whatever state that has what it wants. -/
def OpFacts (all : List Oper) (n : Nat) (df : List Deferred) (next : Nat) (ys : Nat) (kt : List Nat) : List Oper → List Eff → Prop
  | [], [] => True
  | o :: os, e :: es => (∀ m : Mid, Has e m → StepOk ro P c all o (m.st n df next ys kt) ((e.apply m).st n df next ys kt)) ∧ OpFacts all n df next ys kt os es
  | _, _ => False
end

/-- In the text's order each finds what it wants. -/
def TextOk : List Eff → Mid → Prop
  | [], _ => True
  | e :: es, m => Has e m ∧ TextOk es (e.apply m)

/-! The order. -/
def wT (e : Eff) : List Nat := e.dst.toList
def rT (e : Eff) : List Nat := e.need.map (·.1)
def wH (e : Eff) : List Nat := e.upd.map (·.1)
def rH (e : Eff) : List Nat := e.hneed.map (·.1)
def clash (a b : Eff) : Bool :=
  (wT a).any (fun t => (wT b).elem t || (rT b).elem t) || (wT b).any (fun t => (rT a).elem t) ||
  (wH a).any (fun t => (wH b).elem t || (rH b).elem t) || (wH b).any (fun t => (rH a).elem t)

/-- Operation `j` waits, by edges, for `i`. -/
inductive Anc (ops : List Oper) (i : Nat) : Nat → Prop
  | one (j : Nat) (o : Oper) (e : Edge) (ho : ops[j]? = some o) (he : e ∈ o.after) (hb : Region.binds .any e = true) (hi : e.on = i) : Anc ops i j
  | more (j : Nat) (o : Oper) (e : Edge) (ho : ops[j]? = some o) (he : e ∈ o.after) (hb : Region.binds .any e = true) (h : Anc ops i e.on) : Anc ops i j

def edgesOf (o : Oper) : List Nat := (o.after.toList.filter (Region.binds .any)).map (·.on)
/-- For each operation the set of those that it waits for. -/
def ancs : List Oper → List Nat → List Nat
  | [], acc => acc
  | o :: os, acc => ancs os (acc ++ [(edgesOf o).foldl (fun m k => m ||| (2 ^ k) ||| acc.getD k 0) 0])
def edgesB : Nat → List Oper → Bool
  | _, [] => true
  | i, o :: os => (edgesOf o).all (fun k => Nat.blt k i) && edgesB (i + 1) os
def clashB (masks : List Nat) (es : List Eff) : Bool :=
  (List.range es.length).all fun j => match es[j]? with
    | some ej => (List.range j).all fun i => match es[i]? with
      | some ei => !(clash ei ej) || Nat.testBit (masks.getD j 0) i
      | none => true
    | none => true
def namesB (es : List Eff) : Bool := es.all fun e => e.names.all fun k => (wH e).elem k
def orderB (ops : List Oper) (es : List Eff) : Bool := edgesB 0 ops && (clashB (ancs ops []) es && namesB es)

theorem edgesB_spec : ∀ (os : List Oper) (k : Nat), edgesB k os = true → ∀ i o, os[i]? = some o → ∀ x ∈ edgesOf o, x < k + i
  | [], k, h, i, o, ho, x, hx => by simp at ho
  | o' :: os, k, h, i, o, ho, x, hx => by
    simp only [edgesB, Bool.and_eq_true, List.all_eq_true] at h
    cases i with
    | zero => simp at ho; subst ho; have := h.1 x hx; simpa [Nat.blt_eq] using this
    | succ i =>
      have := edgesB_spec os (k + 1) h.2 i o (by simpa using ho) x hx
      omega

theorem mem_edgesOf {o : Oper} {k : Nat} : k ∈ edgesOf o ↔ ∃ e ∈ o.after, Region.binds .any e = true ∧ e.on = k := by
  simp only [edgesOf, List.mem_map, List.mem_filter, Array.mem_toList_iff]
  constructor
  · rintro ⟨e, ⟨h1, h2⟩, h3⟩; exact ⟨e, h1, h2, h3⟩
  · rintro ⟨e, h1, h2, h3⟩; exact ⟨e, ⟨h1, h2⟩, h3⟩

theorem foldl_or_spec (acc : List Nat) (i : Nat) : ∀ (l : List Nat) (m : Nat), Nat.testBit (l.foldl (fun m k => m ||| (2 ^ k) ||| acc.getD k 0) m) i = true → Nat.testBit m i = true ∨ ∃ k ∈ l, k = i ∨ Nat.testBit (acc.getD k 0) i = true
  | [], m, h => .inl h
  | k :: l, m, h => by
    rcases foldl_or_spec acc i l _ h with h1 | ⟨k', h1, h2⟩
    · simp only [Nat.testBit_or, Bool.or_eq_true, Nat.testBit_two_pow, decide_eq_true_eq] at h1
      rcases h1 with (h1 | h1) | h1
      · exact .inl h1
      · exact .inr ⟨k, by simp, .inl h1⟩
      · exact .inr ⟨k, by simp, .inr h1⟩
    · exact .inr ⟨k', by simp [h1], h2⟩

theorem ancs_spec (ops : List Oper) (i : Nat) : ∀ (os : List Oper) (pre : List Oper) (acc : List Nat), ops = pre ++ os → acc.length = pre.length → (∀ j, Nat.testBit (acc.getD j 0) i = true → Anc ops i j) → ∀ j, Nat.testBit ((ancs os acc).getD j 0) i = true → Anc ops i j
  | [], pre, acc, _, _, h, j, hj => h j hj
  | o :: os, pre, acc, he, hl, h, j, hj => by
    refine ancs_spec ops i os (pre ++ [o]) _ (by simp [he]) (by simp [hl]) ?_ j hj
    intro j hj
    simp only [List.getD, List.getElem?_append] at hj
    split at hj
    · exact h j (by simpa [List.getD] using hj)
    · rename_i hlt
      by_cases hj0 : j - acc.length = 0
      · rw [hj0] at hj
        simp only [List.getElem?_cons_zero, Option.getD_some] at hj
        have hjl : j = pre.length := by omega
        have ho : ops[j]? = some o := by rw [he, hjl]; simp
        rcases foldl_or_spec acc i (edgesOf o) 0 hj with h1 | ⟨k, h1, h2⟩
        · simp at h1
        · obtain ⟨e, e1, e2, e3⟩ := mem_edgesOf.1 h1
          rcases h2 with h2 | h2
          · exact .one j o e ho e1 e2 (e3.trans h2)
          · exact .more j o e ho e1 e2 (by rw [e3]; exact h k h2)
      · have : ¬ (j - acc.length < 1) := by omega
        rw [List.getElem?_eq_none (by simp; omega)] at hj
        simp at hj

theorem orderB_spec {ops : List Oper} {es : List Eff} (h : orderB ops es = true) : (∀ i o, ops[i]? = some o → ∀ x ∈ edgesOf o, x < i) ∧ (∀ i j ei ej, i < j → es[i]? = some ei → es[j]? = some ej → clash ei ej = true → Anc ops i j) ∧ ∀ e ∈ es, ∀ k ∈ e.names, k ∈ wH e := by
  simp only [orderB, Bool.and_eq_true] at h
  refine ⟨fun i o ho x hx => by have := edgesB_spec ops 0 h.1 i o ho x hx; omega, fun i j ei ej hij hi hj hc => ?_, fun e he k hk => by
    have := List.all_eq_true.1 h.2.2 e he
    have := List.all_eq_true.1 this k hk
    simpa using this⟩
  have h2 := h.2.1
  simp only [clashB, List.all_eq_true, List.mem_range] at h2
  have hjl : j < es.length := (List.getElem?_eq_some_iff.1 hj).1
  have := h2 j hjl
  rw [hj] at this
  simp only [List.all_eq_true, List.mem_range] at this
  have := this i hij
  rw [hi] at this
  simp only [hc, Bool.not_true, Bool.false_or] at this
  exact ancs_spec ops i ops [] [] rfl rfl (by intro j h; simp at h) j this

/-! Those of `p`, in the text's order. -/
def runP (p : Nat → Bool) : Nat → List Eff → Mid → Mid
  | _, [], m => m
  | k, e :: es, m => runP p (k + 1) es (bif p k then e.apply m else m)

theorem look_cons_ne {α : Type} {t k : Nat} (x : Option α) (l : List (Nat × Option α)) (h : k ≠ t) : look t ((k, x) :: l) = look t l := by rw [look_cons, if_neg h]
theorem look_apply_fr {e : Eff} {m : Mid} {t : Nat} (h : t ∉ wT e) : look t (e.apply m).fr = look t m.fr := by
  unfold Eff.apply
  cases hd : e.dst with
  | none => rfl
  | some d => simp only; exact look_cons_ne _ _ (fun e' => h (by simp [wT, hd, e']))
theorem look_append_ne {α : Type} {t : Nat} : ∀ {l m : List (Nat × Option α)}, t ∉ l.map (·.1) → look t (l ++ m) = look t m
  | [], _, _ => rfl
  | (k, x) :: l, m, h => by
    simp only [List.map_cons, List.mem_cons, not_or] at h
    rw [List.cons_append, look_cons_ne _ _ (fun e => h.1 e.symm)]
    exact look_append_ne h.2
theorem look_append_in {α : Type} {t : Nat} : ∀ {l m m' : List (Nat × Option α)}, t ∈ l.map (·.1) → look t (l ++ m) = look t (l ++ m')
  | [], _, _, h => by simp at h
  | (k, x) :: l, m, m', h => by
    by_cases e : k = t
    · subst e; simp [look_cons]
    · rw [List.cons_append, List.cons_append, look_cons_ne _ _ e, look_cons_ne _ _ e]
      simp only [List.map_cons, List.mem_cons] at h
      rcases h with h | h
      · exact absurd h.symm e
      · exact look_append_in h
theorem look_apply_hp {e : Eff} {m : Mid} {t : Nat} (h : t ∉ wH e) : look t (e.apply m).hp = look t m.hp :=
  look_append_ne h
theorem mem_apply_free {e : Eff} {m : Mid} {t : Nat} : t ∈ (e.apply m).free ↔ t ∈ m.free ∧ t ∉ e.names := by
  unfold Eff.apply
  cases h : e.names with
  | nil => simp
  | cons k l => simp
theorem free_apply {e : Eff} {m : Mid} {t : Nat} (h : t ∉ e.names) : t ∈ (e.apply m).free ↔ t ∈ m.free := by
  rw [mem_apply_free]; simp [h]

/-- Two choices that agree on whoever writes the slot. -/
theorem runP_fr {p q : Nat → Bool} {t : Nat} : ∀ (es : List Eff) (k : Nat) (m m' : Mid), look t m.fr = look t m'.fr → (∀ j e, es[j]? = some e → t ∈ wT e → p (k + j) = q (k + j)) → look t (runP p k es m).fr = look t (runP q k es m').fr
  | [], _, _, _, h, _ => h
  | e :: es, k, m, m', h, hpq => by
    refine runP_fr es (k + 1) _ _ ?_ fun j e' hj ht => by have := hpq (j + 1) e' (by simpa using hj) ht; rw [show k + 1 + j = k + (j + 1) by omega]; exact this
    by_cases ht : t ∈ wT e
    · have := hpq 0 e rfl ht
      simp only [Nat.add_zero] at this
      rw [this]
      cases q k with
      | false => exact h
      | true =>
        simp only [cond_true]
        unfold Eff.apply
        cases hd : e.dst with
        | none => simp [wT, hd] at ht
        | some d => simp only [wT, hd, Option.toList_some, List.mem_singleton] at ht; subst ht; simp [look_cons]
    · have e1 : look t (bif p k then e.apply m else m).fr = look t m.fr := by cases p k with
        | false => rfl
        | true => exact look_apply_fr ht
      have e2 : look t (bif q k then e.apply m' else m').fr = look t m'.fr := by cases q k with
        | false => rfl
        | true => exact look_apply_fr ht
      rw [e1, e2, h]
theorem runP_hp {p q : Nat → Bool} {t : Nat} : ∀ (es : List Eff) (k : Nat) (m m' : Mid), look t m.hp = look t m'.hp → (∀ j e, es[j]? = some e → t ∈ wH e → p (k + j) = q (k + j)) → look t (runP p k es m).hp = look t (runP q k es m').hp
  | [], _, _, _, h, _ => h
  | e :: es, k, m, m', h, hpq => by
    refine runP_hp es (k + 1) _ _ ?_ fun j e' hj ht => by have := hpq (j + 1) e' (by simpa using hj) ht; rw [show k + 1 + j = k + (j + 1) by omega]; exact this
    by_cases ht : t ∈ wH e
    · have := hpq 0 e rfl ht
      simp only [Nat.add_zero] at this
      rw [this]
      cases q k with
      | false => exact h
      | true =>
        simp only [cond_true, Eff.apply]
        by_cases hu : t ∈ e.upd.map (·.1)
        · exact look_append_in hu
        · rw [look_append_ne hu, look_append_ne hu, h]
    · have e1 : look t (bif p k then e.apply m else m).hp = look t m.hp := by cases p k with
        | false => rfl
        | true => exact look_apply_hp ht
      have e2 : look t (bif q k then e.apply m' else m').hp = look t m'.hp := by cases q k with
        | false => rfl
        | true => exact look_apply_hp ht
      rw [e1, e2, h]
theorem runP_free {p q : Nat → Bool} {t : Nat} : ∀ (es : List Eff) (k : Nat) (m m' : Mid), (t ∈ m.free ↔ t ∈ m'.free) → (∀ j e, es[j]? = some e → t ∈ e.names → p (k + j) = q (k + j)) → (t ∈ (runP p k es m).free ↔ t ∈ (runP q k es m').free)
  | [], _, _, _, h, _ => h
  | e :: es, k, m, m', h, hpq => by
    refine runP_free es (k + 1) _ _ ?_ fun j e' hj ht => by have := hpq (j + 1) e' (by simpa using hj) ht; rw [show k + 1 + j = k + (j + 1) by omega]; exact this
    by_cases ht : t ∈ e.names
    · have := hpq 0 e rfl ht
      simp only [Nat.add_zero] at this
      rw [this]
      cases q k with
      | false => exact h
      | true => simp only [cond_true, mem_apply_free, h]
    · have e1 : t ∈ (bif p k then e.apply m else m).free ↔ t ∈ m.free := by cases p k with
        | false => exact Iff.rfl
        | true => exact free_apply ht
      have e2 : t ∈ (bif q k then e.apply m' else m').free ↔ t ∈ m'.free := by cases q k with
        | false => exact Iff.rfl
        | true => exact free_apply ht
      rw [e1, e2, h]

/-- The text's order, cut ahead of `i`, is the choice of those ahead of `i`. -/
theorem textOk_has : ∀ (es : List Eff) (k : Nat) (m : Mid), TextOk es m → ∀ i e, es[i]? = some e → Has e (runP (fun j => Nat.blt j (k + i)) k (es.take i) m)
  | [], _, _, _, i, e, h => by simp at h
  | e' :: es, k, m, h, 0, e, hi => by simp at hi; subst hi; exact h.1
  | e' :: es, k, m, h, i + 1, e, hi => by
    have := textOk_has es (k + 1) (e'.apply m) h.2 i e (by simpa using hi)
    simp only [List.take_succ_cons, runP]
    have hb : Nat.blt k (k + (i + 1)) = true := by simp [Nat.blt_eq]
    rw [hb, cond_true, show k + (i + 1) = k + 1 + i by omega]
    exact this
theorem runP_congr {p q : Nat → Bool} : ∀ (es : List Eff) (k : Nat) (m : Mid), (∀ j, j < es.length → p (k + j) = q (k + j)) → runP p k es m = runP q k es m
  | [], _, _, _ => rfl
  | e :: es, k, m, h => by
    have h0 := h 0 (by simp)
    simp only [Nat.add_zero] at h0
    simp only [runP, h0]
    exact runP_congr es (k + 1) _ fun j hj => by have := h (j + 1) (by simp; omega); rw [show k + 1 + j = k + (j + 1) by omega]; exact this
theorem runP_none : ∀ (es : List Eff) (k : Nat) (m : Mid), runP (fun _ => false) k es m = m
  | [], _, _ => rfl
  | e :: es, k, m => by simp only [runP, cond_false]; exact runP_none es (k + 1) m
theorem runP_take (es : List Eff) : ∀ (i k : Nat) (m : Mid), runP (fun j => Nat.blt j (k + i)) k (es.take i) m = runP (fun j => Nat.blt j (k + i)) k es m := by
  induction es with
  | nil => intro i k m; simp [runP]
  | cons e es ih =>
    intro i k m
    cases i with
    | zero =>
      simp only [List.take_zero, runP]
      rw [runP_congr (q := fun _ => false) es (k + 1) _ (fun j _ => by simp [Nat.blt_eq, Bool.eq_false_iff]; omega)]
      rw [runP_none]
      simp [Bool.eq_false_iff.2 (show ¬ Nat.blt k k = true by simp [Nat.blt_eq])]
    | succ i =>
      simp only [List.take_succ_cons, runP]
      have := ih i (k + 1) (bif Nat.blt k (k + (i + 1)) then e.apply m else m)
      rw [show k + (i + 1) = k + 1 + i by omega] at this ⊢
      exact this

/-- The last that writes a slot. -/
theorem runP_last {q : Nat → Bool} {t : Nat} : ∀ (es : List Eff) (k i : Nat) (m m' : Mid) (e : Eff), es[i]? = some e → q (k + i) = true → t ∈ wT e → (∀ j e', i < j → es[j]? = some e' → t ∈ wT e' → q (k + j) = false) → look t (runP q k es m).fr = look t (e.apply m').fr
  | [], _, i, _, _, e, h, _, _, _ => by simp at h
  | e' :: es, k, 0, m, m', e, h, hq, ht, hj => by
    simp at h; subst h
    simp only [Nat.add_zero] at hq
    simp only [runP, hq, cond_true]
    rw [runP_fr (q := fun _ => false) es (k + 1) (e'.apply m) (e'.apply m) rfl (fun j e2 h2 h3 => by have := hj (j + 1) e2 (by omega) (by simpa using h2) h3; rw [show k + 1 + j = k + (j + 1) by omega]; exact this), runP_none]
    unfold Eff.apply
    cases hd : e'.dst with
    | none => simp [wT, hd] at ht
    | some d => simp only [wT, hd, Option.toList_some, List.mem_singleton] at ht; subst ht; simp [look_cons]
  | e' :: es, k, i + 1, m, m', e, h, hq, ht, hj => by
    simp only [runP]
    exact runP_last es (k + 1) i _ m' e (by simpa using h) (by rw [show k + 1 + i = k + (i + 1) by omega]; exact hq) ht (fun j e2 h1 h2 h3 => by have := hj (j + 1) e2 (by omega) (by simpa using h2) h3; rw [show k + 1 + j = k + (j + 1) by omega]; exact this)
theorem runP_lastH {q : Nat → Bool} {t : Nat} : ∀ (es : List Eff) (k i : Nat) (m m' : Mid) (e : Eff), es[i]? = some e → q (k + i) = true → t ∈ wH e → (∀ j e', i < j → es[j]? = some e' → t ∈ wH e' → q (k + j) = false) → look t (runP q k es m).hp = look t (e.apply m').hp
  | [], _, i, _, _, e, h, _, _, _ => by simp at h
  | e' :: es, k, 0, m, m', e, h, hq, ht, hj => by
    simp at h; subst h
    simp only [Nat.add_zero] at hq
    simp only [runP, hq, cond_true]
    rw [runP_hp (q := fun _ => false) es (k + 1) (e'.apply m) (e'.apply m) rfl (fun j e2 h2 h3 => by have := hj (j + 1) e2 (by omega) (by simpa using h2) h3; rw [show k + 1 + j = k + (j + 1) by omega]; exact this), runP_none]
    exact look_append_in ht
  | e' :: es, k, i + 1, m, m', e, h, hq, ht, hj => by
    simp only [runP]
    exact runP_lastH es (k + 1) i _ m' e (by simpa using h) (by rw [show k + 1 + i = k + (i + 1) by omega]; exact hq) ht (fun j e2 h1 h2 h3 => by have := hj (j + 1) e2 (by omega) (by simpa using h2) h3; rw [show k + 1 + j = k + (j + 1) by omega]; exact this)
theorem runP_freeSub {q : Nat → Bool} {t : Nat} : ∀ (es : List Eff) (k : Nat) (m : Mid), t ∈ (runP q k es m).free → t ∈ m.free ∧ ∀ j e, es[j]? = some e → q (k + j) = true → t ∉ e.names
  | [], _, _, h => ⟨h, by simp⟩
  | e' :: es, k, m, h => by
    simp only [runP] at h
    obtain ⟨h1, h2⟩ := runP_freeSub es (k + 1) _ h
    have h3 : t ∈ m.free ∧ (q k = true → t ∉ e'.names) := by
      cases hq : q k with
      | false => rw [hq] at h1; exact ⟨h1, by simp⟩
      | true =>
        rw [hq] at h1
        simp only [cond_true, mem_apply_free] at h1
        exact ⟨h1.1, fun _ => h1.2⟩
    refine ⟨h3.1, fun j e hj hqj => ?_⟩
    cases j with
    | zero => simp at hj; subst hj; exact h3.2 (by simpa using hqj)
    | succ j => exact h2 j e (by simpa using hj) (by rw [show k + 1 + j = k + (j + 1) by omega]; exact hqj)

section
variable {ro : Option Nat} {P : Program} {c : Cx} {Q : Exit → Act → World → Prop} {s s' : St}

/-- A state that says no more. -/
theorem imp_less (hn : s'.n = s.n) (hys : s'.ys = s.ys) (hkt : s'.kt = s.kt) (hnext : s'.next = s.next) (hfr : ∀ t x, look t s'.fr = some x → look t s.fr = some x) (hhp : ∀ t x, look t s'.hp = some x → look t s.hp = some x) (hfree : ∀ k, k ∈ s'.free → k ∈ s.free) : Imp c s s' := by
  rintro a w ⟨O, θ, h⟩
  exact ⟨O, θ, h.size.trans hn.symm, h.df, fun t x hx => h.fr t x (hfr t x hx), fun id b hb => h.hp id b (hhp id b hb), fun i j bi bj vi vj g hi hj => h.inj i j bi bj vi vj g (hhp i bi hi) (hhp j bj hj),
    fun id v hv => ⟨by rw [hnext]; exact (h.dom id v hv).1, fun hm => (h.dom id v hv).2 (hfree id hm)⟩, fun k hk => by rw [hnext]; exact h.flt k (hfree k hk), h.one, h.olt, h.ext, h.xo, h.xlt, h.llt, h.marks, h.oc, by rw [hkt]; exact h.kp, by
      rw [hys]
      refine c.Jst h.jn ⟨rfl, rfl, rfl, Nat.le_refl _, fun _ _ _ => rfl, fun g h => .inl h, fun g h _ => h, h.olt, fun g hI => .inl ?_⟩
      rcases hI with hI | ⟨id, b, v, h1, h2, h3⟩ | hI
      · exact .inl hI
      · exact .inr (.inl ⟨id, b, v, hhp id b h1, h2, h3⟩)
      · exact .inr (.inr hI)⟩

/-- Names that stand for nothing yet, laid ready. -/
theorem imp_names (k : Nat) : Imp c s { s with next := s.next + k, free := (List.range k).map (s.next + ·) } := by
  rintro a w ⟨O, θ, h⟩
  refine ⟨O, θ, h.size, h.df, h.fr, h.hp, h.inj, fun id v hv => ⟨?_, fun hm => ?_⟩, fun j hj => ?_, h.one, h.olt, h.ext, h.xo, h.xlt, h.llt, h.marks, h.oc, h.kp, h.jn⟩
  · have := (h.dom id v hv).1; show id < s.next + k; omega
  · obtain ⟨j, hj, e⟩ := List.mem_map.1 hm
    have := (h.dom id v hv).1
    simp at hj; omega
  · obtain ⟨j', hj', e⟩ := List.mem_map.1 hj
    simp at hj'
    show j < s.next + k
    omega

theorem wpIn_facts {all : List Oper} {n next ys : Nat} {kt : List Nat} {df : List Deferred} : ∀ {l : List Oper} {es : List Eff}, OpFacts ro P c all n df next ys kt l es → l.length = es.length ∧ ∀ (i : Nat) (o : Oper) (e : Eff), l[i]? = some o → es[i]? = some e → ∀ m : Mid, Has e m → StepOk ro P c all o (m.st n df next ys kt) ((e.apply m).st n df next ys kt)
  | [], [], _ => by simp
  | o :: os, e :: es, h => by
    obtain ⟨h1, h2⟩ := wpIn_facts h.2
    refine ⟨by simp [h1], fun i o' e' ho he m hm => ?_⟩
    cases i with
    | zero => simp at ho he; subst ho; subst he; exact h.1 m hm
    | succ i => exact h2 i o' e' (by simpa using ho) (by simpa using he) m hm
  | [], _ :: _, h => by simp [OpFacts] at h
  | _ :: _, [], h => by simp [OpFacts] at h

theorem mem_ready {ops : Array Oper} {listed : Array Bool} {i : Nat} : i ∈ Region.ready .any ops listed ↔ i < ops.size ∧ listed.getD i true = false ∧ ∃ o, ops[i]? = some o ∧ ∀ e ∈ o.after, Region.binds .any e = true → listed.getD e.on false = true := by
  unfold Region.ready
  rw [List.mem_filter, List.mem_range]
  constructor
  · rintro ⟨h1, h2⟩
    simp only [Bool.and_eq_true, Bool.not_eq_true'] at h2
    refine ⟨h1, h2.1, ops[i], by simp [h1], fun e he hb => ?_⟩
    have h3 := h2.2
    rw [show ops[i]? = some ops[i] by simp [h1]] at h3
    simp only [Option.map_some, Option.getD_some] at h3
    have := Array.all_eq_true_iff_forall_mem.1 h3 e he
    simpa [hb] using this
  · rintro ⟨h1, h2, o, ho, h3⟩
    refine ⟨h1, ?_⟩
    simp only [h2, Bool.not_false, Bool.true_and, ho, Option.map_some, Option.getD_some]
    refine Array.all_eq_true_iff_forall_mem.2 fun e he => ?_
    cases hb : Region.binds .any e with
    | false => simp
    | true => simpa using h3 e he hb

/-- **A region that draws its order**, walked in the text's order. -/
theorem aw_drawn {id n next ys : Nat} {kt : List Nat} {df : List Deferred} {l : List Oper} (es : List Eff) (m0 : Mid) (hm : P.follows .mixedOrders = true) (hs0 : s = m0.st n df next ys kt) (hF : OpFacts ro P c l n df next ys kt l es) (hT : TextOk es m0) (hB : orderB l es = true)
    (h : Post c Q .normal ((runP (fun _ => true) 0 es m0).st n df next ys kt)) : AW ro P c (.region id l.toArray true) Q s := by
  subst hs0
  obtain ⟨hlen, hfact⟩ := wpIn_facts hF
  obtain ⟨hEdge, hClash, hNames⟩ := orderB_spec hB
  -- whoever waits for one that is listed ..
  have key : ∀ (fuel : Nat) (listed : Array Bool) (a : Act) (w : World), listed.size = l.length → (∀ j o e, l[j]? = some o → e ∈ o.after → Region.binds .any e = true → listed.getD j false = true → listed.getD e.on false = true) →
      ((List.range l.length).filter fun i => !listed.getD i true).length ≤ fuel → Sim c ((runP (fun i => listed.getD i false) 0 es m0).st n df next ys kt) a w → wpAnyIn (FF ro) 0 P .any l.toArray Q fuel listed a w := by
    have getD_tf : ∀ (listed : Array Bool) (i : Nat), i < listed.size → listed.getD i true = listed.getD i false := fun listed i hi => by simp [hi]
    have down : ∀ (listed : Array Bool), (∀ j o e, l[j]? = some o → e ∈ o.after → Region.binds .any e = true → listed.getD j false = true → listed.getD e.on false = true) → ∀ i j, Anc l i j → listed.getD j false = true → listed.getD i false = true := by
      intro listed hd i j ha
      induction ha with
      | one j o e ho he hb hi => intro hj; rw [← hi]; exact hd j o e ho he hb hj
      | more j o e ho he hb _ ih => intro hj; exact ih (hd j o e ho he hb hj)
    have finish : ∀ (listed : Array Bool) (a : Act) (w : World), listed.size = l.length → Region.ready .any l.toArray listed = [] → Sim c ((runP (fun i => listed.getD i false) 0 es m0).st n df next ys kt) a w → Q .normal a w := by
      intro listed a w hsz hr hs
      have all : ∀ i, i < l.length → listed.getD i false = true := by
        intro i
        induction i using Nat.strongRecOn with
        | _ i ih =>
          intro hi
          cases hb : listed.getD i false with
          | true => rfl
          | false =>
            exfalso
            have hmem : i ∈ Region.ready .any l.toArray listed := by
              refine mem_ready.2 ⟨by simpa using hi, by rw [getD_tf listed i (by omega)]; exact hb, l[i], by simp [hi], fun e he hbd => ?_⟩
              have hlt := hEdge i l[i] (by simp [hi]) e.on (mem_edgesOf.2 ⟨e, he, hbd, rfl⟩)
              exact ih e.on hlt (by omega)
            rw [hr] at hmem; cases hmem
      refine h a w ?_
      rw [← runP_congr (p := fun i => listed.getD i false) es 0 m0 (fun j hj => by rw [Nat.zero_add]; exact all j (by omega))]
      exact hs
    intro fuel
    induction fuel with
    | zero =>
      intro listed a w hsz hd hc hs
      have hr : Region.ready .any l.toArray listed = [] := by
        rw [List.eq_nil_iff_forall_not_mem]
        intro i hi
        obtain ⟨h1, h2, _⟩ := mem_ready.1 hi
        have : i ∈ (List.range l.length).filter fun i => !listed.getD i true := List.mem_filter.2 ⟨by simpa using h1, by simp [h2]⟩
        have := List.length_pos_of_mem this
        omega
      exact ⟨hr, finish listed a w hsz hr hs⟩
    | succ fuel ih =>
      intro listed a w hsz hd hc hs
      refine ⟨fun hr => finish listed a w hsz hr hs, fun i hi => ?_⟩
      obtain ⟨h1, h2, o, ho, hafter⟩ := mem_ready.1 hi
      have hil : i < l.length := by simpa using h1
      have ho' : l[i]? = some o := by simpa using ho
      have hiF : listed.getD i false = false := by rw [← getD_tf listed i (by omega)]; exact h2
      obtain ⟨e, he⟩ : ∃ e, es[i]? = some e := ⟨es[i]'(by omega), List.getElem?_eq_getElem (by omega)⟩
      -- all that it waits for is listed
      have hanc : ∀ j, Anc l j i → listed.getD j false = true := by
        intro j hj
        cases hj with
        | one _ o2 e2 ho2 he2 hb2 hi2 =>
          rw [ho'] at ho2; cases ho2
          rw [← hi2]; exact hafter e2 he2 hb2
        | more _ o2 e2 ho2 he2 hb2 h3 =>
          rw [ho'] at ho2; cases ho2
          exact down listed hd j e2.on h3 (hafter e2 he2 hb2)
      -- whoever clashes with it is listed just if it stands ahead of it
      have agree : ∀ j ej, es[j]? = some ej → (j ≠ i → clash e ej = true ∧ clash ej e = true) → listed.getD (0 + j) false = Nat.blt (0 + j) (0 + i) := by
        intro j ej hj hcl
        simp only [Nat.zero_add]
        by_cases hji : j = i
        · subst hji; rw [hiF]; simp [Nat.blt_eq, Bool.eq_false_iff]
        · obtain ⟨c1, c2⟩ := hcl hji
          rcases Nat.lt_or_gt_of_ne hji with hlt | hlt
          · rw [hanc j (hClash j i ej e hlt hj he c2)]
            rw [eq_comm]; simpa [Nat.blt_eq] using hlt
          · have hA := hClash i j e ej hlt he hj c1
            have : listed.getD j false = false := by
              cases hb : listed.getD j false with
              | false => rfl
              | true => have := down listed hd i j hA hb; rw [hiF] at this; cases this
            rw [this]; symm; rw [Bool.eq_false_iff]; simp [Nat.blt_eq]; omega
      have clT : ∀ (t : Nat) (a b : Eff), t ∈ wT a → (t ∈ wT b ∨ t ∈ rT b) → clash a b = true ∧ clash b a = true := by
        intro t a b ha hb
        constructor
        · simp only [clash, Bool.or_eq_true, List.any_eq_true]
          exact .inl (.inl (.inl ⟨t, ha, by simpa using hb⟩))
        · rcases hb with hb | hb
          · simp only [clash, Bool.or_eq_true, List.any_eq_true]
            exact .inl (.inl (.inl ⟨t, hb, by simp [ha]⟩))
          · simp only [clash, Bool.or_eq_true, List.any_eq_true]
            exact .inl (.inl (.inr ⟨t, ha, by simpa using hb⟩))
      have clH : ∀ (t : Nat) (a b : Eff), t ∈ wH a → (t ∈ wH b ∨ t ∈ rH b) → clash a b = true ∧ clash b a = true := by
        intro t a b ha hb
        constructor
        · simp only [clash, Bool.or_eq_true, List.any_eq_true]
          exact .inl (.inr ⟨t, ha, by simpa using hb⟩)
        · rcases hb with hb | hb
          · simp only [clash, Bool.or_eq_true, List.any_eq_true]
            exact .inl (.inr ⟨t, hb, by simp [ha]⟩)
          · simp only [clash, Bool.or_eq_true, List.any_eq_true]
            exact .inr ⟨t, ha, by simpa using hb⟩
      have hhas0 := textOk_has es 0 m0 hT i e he
      rw [runP_take] at hhas0
      have hhas : Has e (runP (fun i => listed.getD i false) 0 es m0) := by
        refine ⟨HasT.iff.2 fun t x hx => ?_, HasH.iff.2 fun t x hx => ?_, HasN.iff.2 fun k hk => ?_⟩
        · rw [runP_fr (q := fun j => Nat.blt j (0 + i)) es 0 m0 m0 rfl (fun j ej hj ht => agree j ej hj fun _ => (clT t ej e ht (.inr (List.mem_map.2 ⟨_, hx, rfl⟩))).symm)]
          exact HasT.iff.1 hhas0.1 t x hx
        · rw [runP_hp (q := fun j => Nat.blt j (0 + i)) es 0 m0 m0 rfl (fun j ej hj ht => agree j ej hj fun _ => (clH t ej e ht (.inr (List.mem_map.2 ⟨_, hx, rfl⟩))).symm)]
          exact HasH.iff.1 hhas0.2.1 t x hx
        · rw [runP_free (q := fun j => Nat.blt j (0 + i)) es 0 m0 m0 Iff.rfl (fun j ej hj ht => agree j ej hj fun _ => (clH k ej e (hNames ej (List.mem_of_getElem? hj) k ht) (.inl (hNames e (List.mem_of_getElem? he) k hk))).symm)]
          exact HasN.iff.1 hhas0.2.2 k hk
      have hstep := hfact i o e ho' he _ hhas
      have hset : ∀ j, (listed.setIfInBounds i true).getD j false = if j = i then true else listed.getD j false := by
        intro j
        simp only [Array.getD_eq_getD_getElem?, Array.getElem?_setIfInBounds]
        by_cases hji : j = i
        · subst hji; simp [show j < listed.size by omega]
        · rw [if_neg (fun e => hji e.symm), if_neg hji]
      -- the state behind it
      have himp : Imp c ((e.apply (runP (fun i => listed.getD i false) 0 es m0)).st n df next ys kt) ((runP (fun j => (listed.setIfInBounds i true).getD j false) 0 es m0).st n df next ys kt) := by
        have later : ∀ j ej, i < j → es[j]? = some ej → (clash e ej = true) → (listed.setIfInBounds i true).getD (0 + j) false = false := by
          intro j ej hlt hj c1
          rw [Nat.zero_add, hset, if_neg (by omega)]
          cases hb : listed.getD j false with
          | false => rfl
          | true => have := down listed hd i j (hClash i j e ej hlt he hj c1) hb; rw [hiF] at this; cases this
        refine imp_less rfl rfl rfl rfl (fun t x hx => ?_) (fun t x hx => ?_) (fun k hk => ?_)
        · by_cases ht : t ∈ wT e
          · have := runP_last (q := fun j => (listed.setIfInBounds i true).getD j false) es 0 i m0 (runP (fun i => listed.getD i false) 0 es m0) e he (by simp only [Nat.zero_add]; rw [hset, if_pos rfl]) ht (fun j ej hlt hj htj => later j ej hlt hj (clT t e ej ht (.inl htj)).1)
            exact this.symm.trans hx
          · show look t (e.apply _).fr = some x
            rw [look_apply_fr ht, ← hx]
            refine (runP_fr es 0 m0 m0 rfl fun j ej hj htj => ?_).symm
            rw [hset, if_neg (fun e' => ?_)]
            rw [Nat.zero_add] at e'; subst e'
            rw [he] at hj; cases hj
            exact ht htj
        · by_cases ht : t ∈ wH e
          · have := runP_lastH (q := fun j => (listed.setIfInBounds i true).getD j false) es 0 i m0 (runP (fun i => listed.getD i false) 0 es m0) e he (by simp only [Nat.zero_add]; rw [hset, if_pos rfl]) ht (fun j ej hlt hj htj => later j ej hlt hj (clH t e ej ht (.inl htj)).1)
            exact this.symm.trans hx
          · show look t (e.apply _).hp = some x
            rw [look_apply_hp ht, ← hx]
            refine (runP_hp es 0 m0 m0 rfl fun j ej hj htj => ?_).symm
            rw [hset, if_neg (fun e' => ?_)]
            rw [Nat.zero_add] at e'; subst e'
            rw [he] at hj; cases hj
            exact ht htj
        · show k ∈ (e.apply _).free
          have hk' : k ∈ (runP (fun j => (listed.setIfInBounds i true).getD j false) 0 es m0).free := hk
          obtain ⟨_, hkn⟩ := runP_freeSub es 0 m0 hk'
          have hke : k ∉ e.names := hkn i e he (by simp only [Nat.zero_add]; rw [hset, if_pos rfl])
          rw [free_apply hke]
          refine (runP_free es 0 m0 m0 Iff.rfl fun j ej hj htj => ?_).1 hk'
          rw [hset, if_neg (fun e' => ?_)]
          rw [Nat.zero_add] at e'; subst e'
          rw [he] at hj; cases hj
          exact hke htj
      have hnext : ∀ a' w', Sim c ((e.apply (runP (fun i => listed.getD i false) 0 es m0)).st n df next ys kt) a' w' → wpAnyIn (FF ro) 0 P .any l.toArray Q fuel (listed.setIfInBounds i true) a' w' := by
        intro a' w' hs'
        refine ih _ a' w' (by simpa using hsz) ?_ ?_ (himp a' w' hs')
        · intro j o2 e2 ho2 he2 hb2 hj
          rw [hset] at hj ⊢
          by_cases hon : e2.on = i
          · rw [if_pos hon]
          · rw [if_neg hon]
            by_cases hji : j = i
            · subst hji
              rw [ho'] at ho2; cases ho2
              exact hafter e2 he2 hb2
            · rw [if_neg hji] at hj
              exact hd j o2 e2 ho2 he2 hb2 hj
        · have hsub : ((List.range l.length).filter fun j => !(listed.setIfInBounds i true).getD j true).length + 1 ≤ ((List.range l.length).filter fun j => !listed.getD j true).length := by
            have hg : ∀ j, j < l.length → (listed.setIfInBounds i true).getD j true = if j = i then true else listed.getD j true := by
              intro j hj
              rw [getD_tf _ j (by simp; omega), hset, getD_tf listed j (by omega)]
            have e1 : ((List.range l.length).filter fun j => !(listed.setIfInBounds i true).getD j true) = ((List.range l.length).filter fun j => !listed.getD j true).filter fun j => !(decide (j = i)) := by
              rw [List.filter_filter]
              refine List.filter_congr fun j hj => ?_
              rw [hg j (by simpa using hj)]
              by_cases hji : j = i <;> simp [hji]
            rw [e1]
            have hmem : i ∈ (List.range l.length).filter fun j => !listed.getD j true := List.mem_filter.2 ⟨by simpa using hil, by simp [h2]⟩
            generalize ((List.range l.length).filter fun j => !listed.getD j true) = L at hmem
            have : ∀ L : List Nat, i ∈ L → (L.filter fun j => !(decide (j = i))).length + 1 ≤ L.length := by
              intro L
              induction L with
              | nil => intro h; simp at h
              | cons x L ihL =>
                intro h
                by_cases hxi : x = i
                · subst hxi
                  have := List.length_filter_le (fun j => !(decide (j = x))) L
                  simp; omega
                · rcases List.mem_cons.1 h with h | h
                  · exact absurd h.symm hxi
                  · have := ihL h
                    simp [hxi]; omega
            exact this L hmem
          omega
      obtain ⟨O, θ, hsAt⟩ := hs
      unfold wpOpIn
      rw [ho]
      rcases hstep with ⟨hg, hop⟩ | ⟨hg, hkt, heq⟩
      · simp only [guard_wanted hsAt hg, if_true]
        exact hop a w ⟨O, θ, hsAt⟩ _ _ hnext
      · simp only [guard_wanted hsAt hg, Bool.false_eq_true, if_false]
        refine ⟨fun f _ => trivial, hnext _ _ ?_⟩
        rw [heq]
        exact ⟨O, θ, hsAt.skipU _ (ktB_spec hkt)⟩
  rintro a w ⟨O, θ, hs⟩
  refine wpIn_region_any hm (key l.toArray.size _ a _ (by simp) ?_ ?_ ?_)
  · intro j o e ho he hb hj
    simp [Array.getElem?_replicate] at hj
    split at hj <;> simp at hj
  · have := List.length_filter_le (fun i => !(Array.replicate l.toArray.size false).getD i true) (List.range l.length)
    simpa using this
  · have : runP (fun i => (Array.replicate l.toArray.size false).getD i false) 0 es m0 = m0 := by
      rw [runP_congr (q := fun _ => false) es 0 m0 (fun j _ => by simp [Array.getElem?_replicate]; split <;> rfl), runP_none]
    rw [this]
    exact ⟨O, θ, hs.grownNone ⟨rfl, rfl, rfl, Nat.le_refl _, fun _ _ _ => rfl⟩⟩
end
end Go.Abs
