/- The abstract layer that the proof stands on: no condition. -/
import Derived.Test.YtkfgkkbfipgklaaAbsBB
/- Short words for the walks; regions that draw their order, walked step by step. -/
namespace Go.Abs
open Go.RowKit
/-- A box's cells, of a whole value. -/
abbrev bxv (l : List PV) : List AV := l.map AV.pv
section
variable {ro : Option Nat} {P : Program} {c : Cx} {Q : Exit → Act → World → Prop} {s : St}
/-- The region `l`: its first operations are walked (their effects, the last one first: `es`), `rest` is to come, from `m` on. -/
def DrW (ro : Option Nat) (P : Program) (c : Cx) (Q : Exit → Act → World → Prop) (s : St) (id : Nat) (l : List Oper) (n : Nat) (df : List Deferred) (next ys : Nat) (kt : List Nat) (m0 : Mid) (es : List Eff) (rest : List Oper) (m : Mid) : Prop :=
  (∃ pre, l = pre ++ rest ∧ ∀ rest' es', OpFacts ro P c l n df next ys kt rest' es' → OpFacts ro P c l n df next ys kt (pre ++ rest') (es.reverse ++ es')) → (∀ es', TextOk es' m → TextOk (es.reverse ++ es') m0) →
    runP (fun _ => true) 0 es.reverse m0 = m → AW ro P c (.region id l.toArray true) Q s
theorem runP_snoc (p : Nat → Bool) : ∀ (es : List Eff) (k : Nat) (m : Mid) (e : Eff), (∀ j, p j = true) → runP p k (es ++ [e]) m = e.apply (runP p k es m)
  | [], k, m, e, h => by simp [runP, h]
  | e' :: es, k, m, e, h => by
    simp only [List.cons_append, runP, h, cond_true]
    exact runP_snoc p es (k + 1) _ e h
theorem dr_start {id n next ys : Nat} {kt : List Nat} {df : List Deferred} {l : List Oper} (m0 : Mid) (_hs0 : s = m0.st n df next ys kt) (h : DrW ro P c Q s id l n df next ys kt m0 [] l m0) : AW ro P c (.region id l.toArray true) Q s :=
  h ⟨[], rfl, fun _ _ h => h⟩ (fun _ h => h) rfl
theorem dr_cons {id n next ys : Nat} {kt : List Nat} {df : List Deferred} {l rest : List Oper} {o : Oper} {m0 m : Mid} {es : List Eff} (e : Eff) (hf : ∀ m : Mid, Has e m → StepOk ro P c l o (m.st n df next ys kt) ((e.apply m).st n df next ys kt)) (ht : Has e m)
    (h : DrW ro P c Q s id l n df next ys kt m0 (e :: es) rest (e.apply m)) : DrW ro P c Q s id l n df next ys kt m0 es (o :: rest) m := by
  rintro ⟨pre, h1, h2⟩ h3 h4
  refine h ⟨pre ++ [o], by rw [h1]; simp, fun rest' es' h5 => ?_⟩ (fun es' h5 => ?_) ?_
  · rw [List.reverse_cons, List.append_assoc, List.append_assoc]
    exact h2 (o :: rest') (e :: es') ⟨hf, h5⟩
  · rw [List.reverse_cons, List.append_assoc]
    exact h3 (e :: es') ⟨ht, h5⟩
  · rw [List.reverse_cons, runP_snoc _ _ _ _ _ (fun _ => rfl), h4]
theorem dr_nil {id n next ys : Nat} {kt : List Nat} {df : List Deferred} {l : List Oper} {m0 m : Mid} {es : List Eff} (hm : P.follows .mixedOrders = true) (hs0 : s = m0.st n df next ys kt) (hB : orderB l es.reverse = true) (h : Post c Q .normal (m.st n df next ys kt)) : DrW ro P c Q s id l n df next ys kt m0 es [] m := by
  rintro ⟨pre, h1, h2⟩ h3 h4
  have hF := h2 [] [] trivial
  have hT := h3 [] trivial
  rw [List.append_nil] at h1 hT
  rw [List.append_nil, List.append_nil, ← h1] at hF
  exact aw_drawn es.reverse m0 hm hs0 hF hT hB (by rw [h4]; exact h)
end
end Go.Abs
