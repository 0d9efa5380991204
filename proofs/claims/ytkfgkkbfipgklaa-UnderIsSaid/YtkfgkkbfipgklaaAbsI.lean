/- The abstract layer that the proof stands on: no condition. -/
import Derived.Test.YtkfgkkbfipgklaaAbsH
namespace Go.Abs
open Go.RowKit

/-- Are the cells the same, one by one (integers of one kind, bools, strings)? -/
def eqCells : List PV → List PV → Option Bool
  | [], [] => some true
  | .int k a :: l, .int k' b :: m => bif decide (k = k') then (match eqCells l m with | some r => some (a == b && r) | none => none) else none
  | .bool a :: l, .bool b :: m => (match eqCells l m with | some r => some (a == b && r) | none => none)
  | .str a :: l, .str b :: m => (match eqCells l m with | some r => some (a == b && r) | none => none)
  | _, _ => none

/-- What a cell of a flat type holds. -/
inductive Tag where
  | b
  | i (k : IntKind)
  | s
  deriving DecidableEq

def PV.tag : PV → Option Tag
  | .bool _ => some .b
  | .int k _ => some (.i k)
  | .str _ => some .s
  | _ => none

def flatFields (P : Program) (g : TypeId → Option (List Tag)) : Nat → List Field → Option (List Tag)
  | _, [] => some []
  | n, f :: fs => match g f.type with
    | some ts => if f.offset == n && f.name != "_" && (P.info? f.type).any (·.size == ts.length) then (match flatFields P g (n + ts.length) fs with | some r => some (ts ++ r) | none => none) else none
    | none => none

/-- A type whose cells are integers, bools and strings, one behind the other: which; `d`: fuel. -/
def flatT (P : Program) : (d : Nat) → TypeId → Option (List Tag)
  | 0, _ => none
  | d + 1, t =>
    match P.underlying t with
    | some .bool => some [.b]
    | some (.int k) => some [.i k]
    | some .string => some [.s]
    | some (.struct fs) => if P.stoodInHeld t then none else flatFields P (flatT P d) 0 fs.toList
    | some (.array len e) => match flatT P d e with
      | some ts => if (P.info? e).any (·.size == ts.length) then some (List.replicate len ts).flatten else none
      | none => none
    | _ => none

theorem eqCells_split : ∀ {a b a' b' : List PV} {r : Bool}, a.length = b.length → eqCells (a ++ a') (b ++ b') = some r → ∃ x y, eqCells a b = some x ∧ eqCells a' b' = some y ∧ r = (x && y)
  | [], [], a', b', r, _, h => ⟨true, r, rfl, h, by simp⟩
  | x :: a, y :: b, a', b', r, hl, h => by
    have hl' : a.length = b.length := by simpa using hl
    cases x <;> cases y <;> simp only [List.cons_append, eqCells] at h <;> try (cases h; done)
    · rename_i k n k' n'
      simp only [cond_eq_ite, decide_eq_true_eq] at h
      split at h
      · rename_i hk
        split at h
        · rename_i r' hr'
          cases h
          obtain ⟨x, y, h1, h2, rfl⟩ := eqCells_split hl' hr'
          exact ⟨n == n' && x, y, by simp [eqCells, hk, h1], h2, by simp [Bool.and_assoc]⟩
        · cases h
      · cases h
    · rename_i n n'
      split at h
      · rename_i r' hr'
        cases h
        obtain ⟨x, y, h1, h2, rfl⟩ := eqCells_split hl' hr'
        exact ⟨n == n' && x, y, by simp [eqCells, h1], h2, by simp [Bool.and_assoc]⟩
      · cases h
    · rename_i n n'
      split at h
      · rename_i r' hr'
        cases h
        obtain ⟨x, y, h1, h2, rfl⟩ := eqCells_split hl' hr'
        exact ⟨n == n' && x, y, by simp [eqCells, h1], h2, by simp [Bool.and_assoc]⟩
      · cases h
  | [], _ :: _, _, _, _, h, _ => by simp at h
  | _ :: _, [], _, _, _, h, _ => by simp at h

/-- The value of a type, out of its cells. -/
def mkOf (P : Program) (t : TypeId) (us : List Value) : Value :=
  match P.underlying t with
  | some (.struct _) | some (.array _ _) => .agg us.toArray
  | _ => us.getD 0 undef

section
variable {P : Program}

theorem run_part_flat {w : World} {t : TypeId} {us : List Value} {off : Nat} {d : Nat} {ts : List Tag} (hk : flatT P d t = some ts) (hs : (P.info? t).any (·.size == ts.length) = true) (hfit : off + ts.length ≤ us.length) :
    (part t us.toArray off).run P w = .ok (mkOf P t ((us.drop off).take ts.length)) w := by
  cases hi : P.info? t with
  | none => rw [hi] at hs; cases hs
  | some i =>
    have hsz : i.size = ts.length := by rw [hi] at hs; simpa using hs
    cases d with
    | zero => simp [flatT] at hk
    | succ d =>
      simp only [flatT] at hk
      have agg : ∀ (k : Nat), i.size = k → mkOf P t ((us.drop off).take k) = .agg ((us.drop off).take k).toArray → (isAgg t).run P w = .ok true w → (part t us.toArray off).run P w = .ok (mkOf P t ((us.drop off).take k)) w := by
        intro k hk hm ha
        rw [hm]
        have e : us.toArray.extract off (off + k) = ((us.drop off).take k).toArray := by simp
        simp [part, ha, sizeOf, typeInfo, hi, hk, e]
      have one : ∀ (k : Nat), k = 1 → off + k ≤ us.length → (mkOf P t ((us.drop off).take k) = ((us.drop off).take k).getD 0 undef) → (isAgg t).run P w = .ok false w → (part t us.toArray off).run P w = .ok (mkOf P t ((us.drop off).take k)) w := by
        rintro k rfl hf hm ha
        have hg : us.toArray[off]? = some (us[off]'(by omega)) := by simp
        rw [hm, List.drop_eq_getElem_cons (by omega)]
        simp [part, ha, hg, List.getElem?_eq_getElem (show off < us.length by omega)]
      split at hk
      · rename_i hu; cases hk; exact one _ rfl hfit (by unfold mkOf; rw [hu]) (by simp [isAgg, run_underlying hu])
      · rename_i hu; cases hk; exact one _ rfl hfit (by unfold mkOf; rw [hu]) (by simp [isAgg, run_underlying hu])
      · rename_i hu; cases hk; exact one _ rfl hfit (by unfold mkOf; rw [hu]) (by simp [isAgg, run_underlying hu])
      · rename_i fs hu; exact agg _ hsz (by unfold mkOf; rw [hu]) (by simp [isAgg, run_underlying hu])
      · rename_i a b hu; exact agg _ hsz (by unfold mkOf; rw [hu]) (by simp [isAgg, run_underlying hu])
      · cases hk

theorem Reads1.cut {w : World} {O : Nat → Prop} {us : List Value} {ps : List PV} (h : Reads1 w O us ps) (a b : Nat) : Reads1 w O ((us.drop a).take b) ((ps.drop a).take b) := by
  refine ⟨by simp [h.1], fun p hp => h.2.1 p (List.mem_of_mem_drop (List.mem_of_mem_take hp)), fun j p u hp hu => ?_⟩
  rw [List.getElem?_take] at hp hu
  split at hp
  · rename_i hj
    rw [if_pos hj] at hu
    rw [List.getElem?_drop] at hp hu
    exact h.2.2 _ p u hp hu
  · cases hp

/-- '==' on values of a flat type. -/
theorem run_equal_flat : ∀ (d D : Nat) (t : TypeId) (ts : List Tag) (w : World) (O : Nat → Prop) (us vs : List Value) (ps qs : List PV) (r : Bool), d ≤ D → flatT P d t = some ts →
    ps.map PV.tag = ts.map some → qs.map PV.tag = ts.map some → Reads1 w O us ps → Reads1 w O vs qs → eqCells ps qs = some r → (Op.equalIn D t (mkOf P t us) (mkOf P t vs)).run P w = .ok r w := by
  intro d
  induction d with
  | zero => intro D t k w O us vs ps qs r _ h; simp [flatT] at h
  | succ d ih =>
    intro D t ts w O us vs ps qs r hD hk hp hq hu hv hr
    obtain ⟨D, rfl⟩ : ∃ D', D = D' + 1 := ⟨D - 1, by omega⟩
    simp only [flatT] at hk
    have hpl : ps.length = ts.length := by simpa using congrArg List.length hp
    have hql : qs.length = ts.length := by simpa using congrArg List.length hq
    -- one cell
    have basic : ts.length = 1 → ∃ u v p q, us = [u] ∧ vs = [v] ∧ ps = [p] ∧ qs = [q] ∧ Rd w O p u ∧ Rd w O q v := by
      intro h1
      obtain ⟨p, rfl⟩ := List.length_eq_one_iff.1 (hpl.trans h1)
      obtain ⟨q, rfl⟩ := List.length_eq_one_iff.1 (hql.trans h1)
      obtain ⟨u, rfl⟩ := List.length_eq_one_iff.1 (hu.1.trans (hpl.trans h1))
      obtain ⟨v, rfl⟩ := List.length_eq_one_iff.1 (hv.1.trans (hql.trans h1))
      exact ⟨u, v, p, q, rfl, rfl, rfl, rfl, hu.2.2 0 p u rfl rfl, hv.2.2 0 q v rfl rfl⟩
    -- a part that is of a flat type, at its place
    have piece : ∀ (f : TypeId) (tf : List Tag) (off : Nat) (r' : Bool), flatT P d f = some tf → (P.info? f).any (·.size == tf.length) = true → off + tf.length ≤ ts.length →
        ((ts.drop off).take tf.length) = tf → eqCells ((ps.drop off).take tf.length) ((qs.drop off).take tf.length) = some r' →
        ∃ x y, (part f us.toArray off).run P w = .ok x w ∧ (part f vs.toArray off).run P w = .ok y w ∧ (Op.equalIn D f x y).run P w = .ok r' w := by
      intro f tf off r' h1 h2 h3 h4 h5
      refine ⟨_, _, run_part_flat h1 h2 (by rw [hu.1, hpl]; exact h3), run_part_flat h1 h2 (by rw [hv.1, hql]; exact h3), ?_⟩
      refine ih D f tf w O _ _ _ _ r' (by omega) h1 ?_ ?_ (hu.cut off _) (hv.cut off _) h5
      · rw [List.map_take, List.map_drop, hp, ← List.map_drop, ← List.map_take, h4]
      · rw [List.map_take, List.map_drop, hq, ← List.map_drop, ← List.map_take, h4]
    split at hk
    · rename_i hut; cases hk
      obtain ⟨u, v, p, q, rfl, rfl, rfl, rfl, h1, h2⟩ := basic rfl
      simp only [List.map_cons, List.map_nil, List.cons.injEq, and_true] at hp hq
      cases h1 <;> simp [PV.tag] at hp
      cases h2 <;> simp [PV.tag] at hq
      simp only [eqCells, Option.some.injEq] at hr
      simp [mkOf, hut, Op.equalIn, run_underlying hut, ← hr]
    · rename_i k hut; cases hk
      obtain ⟨u, v, p, q, rfl, rfl, rfl, rfl, h1, h2⟩ := basic rfl
      simp only [List.map_cons, List.map_nil, List.cons.injEq, and_true] at hp hq
      cases h1 <;> simp [PV.tag] at hp
      cases h2 <;> simp [PV.tag] at hq
      subst hp; subst hq
      simp only [eqCells, decide_true, cond_true, Option.some.injEq] at hr
      simp [mkOf, hut, Op.equalIn, run_underlying hut, ← hr]
    · rename_i hut; cases hk
      obtain ⟨u, v, p, q, rfl, rfl, rfl, rfl, h1, h2⟩ := basic rfl
      simp only [List.map_cons, List.map_nil, List.cons.injEq, and_true] at hp hq
      cases h1 <;> simp [PV.tag] at hp
      cases h2 <;> simp [PV.tag] at hq
      simp only [eqCells, Option.some.injEq, Bool.and_true] at hr
      have := run_equalIn_string (P := P) w D t
      simp [mkOf, hut, run_equalIn_string w D t _ _ hut, bytes_toList, ← hr]
    · rename_i fs hut
      split at hk
      · cases hk
      · rename_i hst
        have hfs : P.fieldsOf t = fs := by simp [Program.fieldsOf, hut]
        have hmk : ∀ us, mkOf P t us = .agg us.toArray := fun us => by unfold mkOf; rw [hut]
        rw [hmk, hmk, run_equalIn_struct w D t _ _ (by rw [hfs]; exact hut) (by simpa using hst), hfs]
        -- from the field at 'off' on
        have key : ∀ (l : List Field) (off : Nat) (tr : List Tag) (r' : Bool), flatFields P (flatT P d) off l = some tr → ts.drop off = tr → off ≤ ts.length → eqCells (ps.drop off) (qs.drop off) = some r' →
            (Op.eqFields D us.toArray vs.toArray l).run P w = .ok r' w := by
          intro l
          induction l with
          | nil =>
            intro off tr r' h1 h2 h3 h4
            simp only [flatFields, Option.some.injEq] at h1
            subst h1
            have e1 : ts.length ≤ off := List.drop_eq_nil_iff.1 h2
            rw [List.drop_eq_nil_of_le (by omega), List.drop_eq_nil_of_le (by omega)] at h4
            simp only [eqCells, Option.some.injEq] at h4
            simp [Op.eqFields, ← h4]
          | cons f l ihl =>
            intro off tr r' h1 h2 h3 h4
            simp only [flatFields] at h1
            split at h1
            · rename_i tf htf
              split at h1
              · rename_i hc
                simp only [Bool.and_eq_true, beq_iff_eq, bne_iff_ne, ne_eq] at hc
                obtain ⟨⟨hc1, hc2⟩, hc3⟩ := hc
                split at h1
                · rename_i tr' htr
                  cases h1
                  have hlen : off + tf.length ≤ ts.length := by
                    have := congrArg List.length h2
                    simp at this; omega
                  have e1 : (ts.drop off).take tf.length = tf := by rw [h2]; simp
                  have e2 : ts.drop (off + tf.length) = tr' := by rw [← List.drop_drop, h2]; simp
                  have sp : ∀ (xs : List PV), xs.drop off = (xs.drop off).take tf.length ++ xs.drop (off + tf.length) := fun xs => by rw [← List.drop_drop, List.take_append_drop]
                  rw [sp ps, sp qs] at h4
                  obtain ⟨x, y, q1, q2, rfl⟩ := eqCells_split (by simp [hpl, hql]) h4
                  obtain ⟨va, vb, p1, p2, p3⟩ := piece f.type tf off x htf hc3 hlen e1 q1
                  have q3 := ihl (off + tf.length) tr' y htr e2 hlen q2
                  simp only [Op.eqFields, hc2, ne_eq, not_false_eq_true, if_true, Sem.run_bind, hc1, p1, Result.andThen_ok, p2, p3]
                  cases x with
                  | true => simpa using q3
                  | false => simp
                · cases h1
              · cases h1
            · cases h1
        exact key fs.toList 0 ts r hk rfl (Nat.zero_le _) hr
    · rename_i len e hut
      split at hk
      · rename_i te hte
        split at hk
        · rename_i hsz
          cases hk
          have hmk : ∀ us, mkOf P t us = .agg us.toArray := fun us => by unfold mkOf; rw [hut]
          rw [hmk, hmk]
          cases hie : P.info? e with
          | none => rw [hie] at hsz; cases hsz
          | some ie =>
            have hsz' : ie.size = te.length := by rw [hie] at hsz; simpa using hsz
            have hso : (sizeOf e).run P w = .ok te.length w := by simp [sizeOf, typeInfo, hie, hsz']
            simp only [Op.equalIn, Sem.run_bind, run_underlying hut, Result.andThen_ok, hso]
            simp only [Std.Legacy.Range.forIn_eq_forIn_range', Std.Legacy.Range.size, Nat.sub_zero, Nat.add_one_sub_one, Nat.div_one]
            have htl : (List.replicate len te).flatten.length = len * te.length := by rw [flatten_len (sz := te.length) (fun row hr => by rw [List.eq_of_mem_replicate hr])]; simp
            have key : ∀ (m k : Nat) (r' : Bool), k + m = len → eqCells (ps.drop (k * te.length)) (qs.drop (k * te.length)) = some r' →
                ((forIn (List.range' k m) ((none, ()) : Option Bool × Unit) fun i _ => do
                  let a ← part e us.toArray (i * te.length)
                  let b ← part e vs.toArray (i * te.length)
                  let r ← Op.equalIn D e a b
                  if (!r) = true then pure (ForInStep.done (some false, ())) else pure (ForInStep.yield (none, ())) : Sem (Option Bool × Unit)).run P w) = .ok (if r' then none else some false, ()) w := by
              intro m
              induction m with
              | zero =>
                intro k r' hkm h4
                have : len = k := by omega
                subst this
                rw [List.drop_eq_nil_of_le (by omega), List.drop_eq_nil_of_le (by omega)] at h4
                simp only [eqCells, Option.some.injEq] at h4
                subst h4
                simp
              | succ m ihm =>
                intro k r' hkm h4
                have hlen : k * te.length + te.length ≤ (List.replicate len te).flatten.length := by
                  rw [htl]
                  have : (k + 1) * te.length ≤ len * te.length := Nat.mul_le_mul_right _ (by omega)
                  rw [Nat.add_mul] at this; omega
                have e1 : (((List.replicate len te).flatten.drop (k * te.length)).take te.length) = te := by
                  apply List.ext_getElem?
                  intro j
                  rw [List.getElem?_take]
                  split
                  · rename_i hj
                    rw [List.getElem?_drop, flatten_get (sz := te.length) (fun row hr => by rw [List.eq_of_mem_replicate hr]) k j te (by rw [List.getElem?_replicate, if_pos (by omega)]) hj]
                  · rename_i hj
                    rw [List.getElem?_eq_none (by omega)]
                have sp : ∀ (xs : List PV), xs.drop (k * te.length) = (xs.drop (k * te.length)).take te.length ++ xs.drop ((k + 1) * te.length) := fun xs => by
                  rw [show (k + 1) * te.length = k * te.length + te.length by rw [Nat.add_mul]; omega, ← List.drop_drop, List.take_append_drop]
                rw [sp ps, sp qs] at h4
                obtain ⟨x, y, q1, q2, rfl⟩ := eqCells_split (by simp [hpl, hql]) h4
                obtain ⟨va, vb, p1, p2, p3⟩ := piece e te (k * te.length) x hte hsz hlen e1 q1
                rw [List.range'_succ, List.forIn_cons]
                simp only [Sem.run_bind, p1, Result.andThen_ok, p2, p3]
                cases x with
                | true =>
                  simp only [Bool.not_true, Bool.false_eq_true, if_false, Sem.run_pure, Result.andThen_ok, Bool.true_and]
                  exact ihm (k + 1) y (by omega) q2
                | false => simp
            rw [key len 0 r (by omega) (by rw [Nat.zero_mul]; exact hr)]
            cases r <;> simp
        · cases hk
      · cases hk
    · cases hk
end
end Go.Abs
