/- The abstract layer that the proof stands on: no condition. -/
import Derived.Test.YtkfgkkbfipgklaaAbsA
namespace Go.Abs
open Go.RowKit

theorem getD_put_self {a : Act} {t : Nat} {v : Value} (h : t < a.tmps.size) : (a.put (some t) v).tmps.getD t undef = v := by
  simp [Act.put, h]
theorem getD_put_ne {a : Act} {t t' : Nat} {v : Value} (h : t ≠ t') : (a.put (some t) v).tmps.getD t' undef = a.tmps.getD t' undef := by
  simp [Act.put, Array.getElem?_setIfInBounds_ne h]
theorem size_put (a : Act) (d : Option Nat) (v : Value) : (a.put d v).tmps.size = a.tmps.size := by cases d <;> simp [Act.put]
theorem defers_put (a : Act) (d : Option Nat) (v : Value) : (a.put d v).defers = a.defers := by cases d <;> rfl

theorem look_cons {α : Type} (t k : Nat) (x : Option α) (l : List (Nat × Option α)) : look t ((k, x) :: l) = if k = t then x else look t l := by
  simp only [look]
  by_cases h : k = t
  · subst h; simp
  · rw [if_neg h]; rw [show Nat.beq k t = false from Bool.eq_false_iff.2 (fun e => h (Nat.eq_of_beq_eq_true e))]; rfl

section
variable {c : Cx} {s : St} {O : Nat → Prop} {θ : Nat → Option Value} {a : Act} {w : World}

theorem SimAt.put (h : SimAt c s O θ a w) (d : Option Nat) (x : AV) (v : Value) (hd : ∀ t, d = some t → t < s.n) (hk : ∀ t, d = some t → t ∉ s.kt) (hv : RdA w O θ x v) :
    SimAt c (s.put d (some x)) O θ (a.put d v) w := by
  cases d with
  | none => exact h
  | some t =>
    refine ⟨by rw [size_put]; exact h.size, by rw [defers_put]; exact h.df, ?_, h.hp, h.inj, h.dom, h.flt, h.one, h.olt, h.ext, h.xo, h.xlt, h.llt, h.marks, h.oc, fun t' ht' => (getD_put_ne (fun e => hk t rfl (by rw [e]; exact ht'))).trans (h.kp t' ht'), h.jn⟩
    intro t' x' hx
    simp only [St.put, look_cons] at hx
    split at hx
    · rename_i e; subst e
      cases hx
      rw [getD_put_self (by rw [h.size]; exact hd _ rfl)]
      exact hv
    · rename_i e
      rw [getD_put_ne e]
      exact h.fr _ _ hx

theorem SimAt.skip (h : SimAt c s O θ a w) (d : Option Nat) (v : Value) (hk : ∀ t, d = some t → t ∉ s.kt) : SimAt c (s.put d none) O θ (a.put d v) w := by
  cases d with
  | none => exact h
  | some t =>
    refine ⟨by rw [size_put]; exact h.size, by rw [defers_put]; exact h.df, ?_, h.hp, h.inj, h.dom, h.flt, h.one, h.olt, h.ext, h.xo, h.xlt, h.llt, h.marks, h.oc, fun t' ht' => (getD_put_ne (fun e => hk t rfl (by rw [e]; exact ht'))).trans (h.kp t' ht'), h.jn⟩
    intro t' x' hx
    simp only [St.put, look_cons] at hx
    split at hx
    · cases hx
    · rename_i e
      rw [getD_put_ne e]
      exact h.fr _ _ hx

theorem SimAt.skipU (h : SimAt c s O θ a w) (d : Option Nat) (hk : ∀ t, d = some t → t ∉ s.kt) : SimAt c (s.put d (some (.tup []))) O θ (a.put d undef) w := by
  cases d with
  | none => exact h
  | some t =>
    refine ⟨by rw [size_put]; exact h.size, by rw [defers_put]; exact h.df, ?_, h.hp, h.inj, h.dom, h.flt, h.one, h.olt, h.ext, h.xo, h.xlt, h.llt, h.marks, h.oc, fun t' ht' => (getD_put_ne (fun e => hk t rfl (by rw [e]; exact ht'))).trans (h.kp t' ht'), h.jn⟩
    intro t' x' hx
    simp only [St.put, look_cons] at hx
    split at hx
    · rename_i e
      subst e
      cases hx
      have : (a.put (some t) undef).tmps.getD t undef = undef := by
        by_cases ht : t < a.tmps.size
        · exact getD_put_self ht
        · simp [Act.put, ht]
      rw [this]
      exact .tup [] #[] rfl (by simp)
    · rename_i e
      rw [getD_put_ne e]
      exact h.fr _ _ hx

theorem ownsRow_of_block {w w' : World} {e size n : Nat} {v : Value} {xs : List Value} (h : ownsW w e size v n xs)
    (hb : ∀ g, blkOf v = some g → w'.heap[g]? = w.heap[g]?) : ownsW w' e size v n xs := by
  refine ⟨h.1, ?_⟩
  rcases h.2 with h2 | ⟨g, cap, cur, hv, hg, hh, r⟩
  · exact .inl h2
  · exact .inr ⟨g, cap, cur, hv, hg, by rw [hb g (by rw [hv]; rfl)]; exact hh, r⟩

theorem RowsRd.mono {w w' : World} {O O' : Nat → Prop} {sz : Nat} {rows : List (List PV)} {us : List Value} (hsz : w.heap.size ≤ w'.heap.size)
    (hO : ∀ b, b < w.heap.size → ¬ O b → ¬ O' b ∧ w'.heap[b]? = w.heap[b]?) (h : RowsRd w O sz rows us) : RowsRd w' O' sz rows us :=
  ⟨h.len, h.hz, h.one, fun i j row c u h1 h2 h3 => (h.rd i j row c u h1 h2 h3).mono hsz hO⟩

theorem BlkOk.mono {w w' : World} {O O' : Nat → Prop} {θ θ' : Nat → Option Value} {v : Value} {b : Blk} (hsz : w.heap.size ≤ w'.heap.size)
    (hO : ∀ b, b < w.heap.size → ¬ O b → ¬ O' b ∧ w'.heap[b]? = w.heap[b]?) (hθ : ∀ i v, θ i = some v → θ' i = some v)
    (hb : ∀ g, blkOf v = some g → w'.heap[g]? = w.heap[g]?) (h : BlkOk w O θ v b) : BlkOk w' O' θ' v b := by
  cases b with
  | row e sz rows =>
    obtain ⟨us, h1, h2⟩ := h
    exact ⟨us, ownsRow_of_block h1 hb, h2.mono hsz hO⟩
  | box t cells =>
    obtain ⟨g, us, rfl, h1, h2, h3⟩ := h
    exact ⟨g, us, rfl, by rw [hb g rfl]; exact h1, h2, fun j c u hc hu => ⟨(h3 j c u hc hu).1.mono hsz hO hθ, (h3 j c u hc hu).2⟩⟩
  | dict P t n m =>
    obtain ⟨b, k, e, D, rfl, h1, h2, h3, h4, h5⟩ := h
    obtain ⟨es, clock, q1, q2⟩ := h4
    exact ⟨b, k, e, D, rfl, h1, h2, h3, ⟨es, clock, by rw [hb b rfl]; exact q1, q2⟩, h5⟩

/-- Memory of the program: cells, or a map. -/
def memB : Obj → Bool
  | .cells _ _ _ => true
  | .map _ _ => true
  | _ => false
/-- The block of a name holds cells, or a map. -/
theorem BlkOk.cells {w : World} {O : Nat → Prop} {θ : Nat → Option Value} {v : Value} {b : Blk} {g : Nat} (h : BlkOk w O θ v b) (hg : blkOf v = some g) : ∃ o, w.heap[g]? = some o ∧ memB o = true := by
  cases b with
  | row e sz rows =>
    obtain ⟨us, h1, _⟩ := h
    rcases h1.2 with ⟨rfl, _⟩ | ⟨g', cap, cur, rfl, _, hh, _⟩
    · cases hg
    · cases hg; exact ⟨_, hh, rfl⟩
  | box t cells =>
    obtain ⟨g', us, rfl, h1, _⟩ := h
    cases hg; exact ⟨_, h1, rfl⟩
  | dict P t n m =>
    obtain ⟨b, k, e, D, rfl, h1, h2, h3, ⟨es, clock, q1, q2⟩, h5⟩ := h
    cases hg; exact ⟨_, q1, rfl⟩

theorem Stp.of_grown {O I O' I' : Nat → Prop} {w w' : World} {row : Option Nat} (hg : w.grownBy w' row) (hr : ∀ g, row = some g → I g ∧ O g) (o1 : ∀ g, O' g → O g ∨ w.heap.size ≤ g) (o2 : ∀ g, O g → ¬ I g → O' g) (olt : ∀ g, O' g → g < w'.heap.size)
    (i1 : ∀ g, I' g → I g ∨ w.heap.size ≤ g) : Stp O I w O' I' w' :=
  ⟨hg.os, hg.tape, hg.output, hg.size, fun b hb hn => hg.block b hb (fun e => hn.elim (fun h => h (hr b e.symm).1) (fun h => h (hr b e.symm).2)), o1, o2, olt, i1⟩

theorem Ext.grown {L : Nat → Prop} {w0 w w' : World} {row : Option Nat} (h : Ext L w0 w) (hg : w.grownBy w' row) (hr : ∀ g, row = some g → w0.heap.size ≤ g ∨ L g) : Ext L w0 w' :=
  ⟨hg.os.trans h.os, hg.tape.trans h.tape, hg.output.trans h.output, Nat.le_trans h.size hg.size, fun b hb hL =>
    (hg.block b (Nat.lt_of_lt_of_le hb h.size) (fun e => by rcases hr b e.symm with h1 | h1; omega; exact hL h1)).trans (h.block b hb hL)⟩

/-- The same names, one block of them turned (or none); the world otherwise as it was. -/
theorem SimAt.upd (h : SimAt c s O θ a w) {w' : World} {A : Nat} {vA : Value} {bA b' : Blk} (hA : look A s.hp = some bA) (hvA : θ A = some vA)
    (hg : w.grownBy w' (blkOf vA)) (hb' : BlkOk w' O θ vA b') : SimAt c (s.setBlk A (some b')) O θ a w' := by
  obtain ⟨vA', hvA', hboA, hgA⟩ := h.hp A bA hA
  obtain rfl : vA' = vA := by rw [hvA] at hvA'; cases hvA'; rfl
  have hO : ∀ b, b < w.heap.size → ¬ O b → ¬ O b ∧ w'.heap[b]? = w.heap[b]? := fun b hb hn => ⟨hn, hg.block b hb (fun e => hn (hgA b e.symm).1)⟩
  refine ⟨h.size, h.df, fun t x hx => (h.fr t x hx).mono hg.size hO (fun _ _ hi => hi), ?_, ?_, h.dom, h.flt, h.one, fun g hg' => Nat.lt_of_lt_of_le (h.olt g hg') hg.size, ?_, h.xo, h.xlt, h.llt, ?_, h.oc, h.kp, c.Jst h.jn (.of_grown hg (fun g e => ⟨.inr (.inl ⟨A, bA, vA', hA, hvA, e⟩), (hgA g e).1⟩) (fun g hO => .inl hO) (fun g hO _ => hO) (fun g hO => Nat.lt_of_lt_of_le (h.olt g hO) hg.size) (fun g hI => .inl ?_))⟩
  · intro id b hb
    simp only [St.setBlk, look_cons] at hb
    split at hb
    · rename_i e; subst e; cases hb
      refine ⟨vA', hvA, hb', fun g hgg => ?_⟩
      obtain ⟨h1, h2, h3⟩ := hgA g hgg
      exact ⟨h1, Nat.lt_of_lt_of_le h2 hg.size, h3⟩
    · rename_i e
      obtain ⟨v, hv, hbo, hgv⟩ := h.hp id b hb
      refine ⟨v, hv, hbo.mono hg.size hO (fun _ _ hi => hi) ?_, fun g hgg => ?_⟩
      · intro g hgg
        refine hg.block g (hgv g hgg).2.1 (fun e2 => e ?_)
        exact h.inj A id bA b vA' v g hA hb hvA hv e2.symm hgg
      · obtain ⟨h1, h2, h3⟩ := hgv g hgg
        exact ⟨h1, Nat.lt_of_lt_of_le h2 hg.size, h3⟩
  · intro i j bi bj vi vj g hi hj hvi hvj hgi hgj
    simp only [St.setBlk, look_cons] at hi hj
    have hi' : ∃ bi', look i s.hp = some bi' := by
      split at hi
      · rename_i e; exact ⟨bA, e ▸ hA⟩
      · exact ⟨bi, hi⟩
    have hj' : ∃ bj', look j s.hp = some bj' := by
      split at hj
      · rename_i e; exact ⟨bA, e ▸ hA⟩
      · exact ⟨bj, hj⟩
    obtain ⟨bi', hi'⟩ := hi'
    obtain ⟨bj', hj'⟩ := hj'
    exact h.inj i j bi' bj' vi vj g hi' hj' hvi hvj hgi hgj
  · refine h.ext.grown hg fun g hgg => ?_
    by_cases hL : c.L g
    · exact .inr hL
    · exact .inl ((hgA g hgg).2.2.1 hL)
  · intro d hd
    obtain ⟨D, rfl, hD, hOD, h0⟩ := h.marks d hd
    have hlt : D < w.heap.size := by
      rcases Nat.lt_or_ge D w.heap.size with h1 | h1
      · exact h1
      · rw [Array.getElem?_eq_none h1] at hD; cases hD
    exact ⟨D, rfl, by rw [hg.block D hlt (fun e => by obtain ⟨_, hh, ho⟩ := hboA.cells e.symm; rw [hD] at hh; cases hh; cases ho)]; exact hD, hOD, h0⟩
  · rcases hI with hI | ⟨id, b, v, h1, h2, h3⟩ | hI
    · exact .inl hI
    · refine .inr (.inl ?_)
      simp only [St.setBlk, look_cons] at h1
      split at h1
      · rename_i e; subst e; exact ⟨A, bA, v, hA, h2, h3⟩
      · exact ⟨id, b, v, h1, h2, h3⟩
    · exact .inr (.inr hI)

/-- One more name; the block of one elder name (if any) is turned, and that name is given up. -/
def St.addAt (s : St) (k : Nat) (A : Option Nat) (b : Blk) : St :=
  { s with hp := (k, some b) :: (match A with | some A => (A, none) :: s.hp | none => s.hp), next := bif Nat.beq k s.next then k + 1 else s.next, free := s.free.filter fun x => !([k].elem x) }
/-- A name that stands for nothing. -/
def freshB (s : St) (k : Nat) : Bool := Nat.beq k s.next || s.free.elem k

theorem SimAt.addAt (h : SimAt c s O θ a w) {w' : World} (k : Nat) (hk : freshB s k = true) (A : Option Nat) {row : Option Nat} {v : Value} {b : Blk}
    (hA : ∀ A', A = some A' → ∃ bA vA, look A' s.hp = some bA ∧ θ A' = some vA ∧ row = blkOf vA) (hnA : A = none → row = none)
    (hg : w.grownBy w' row) (hv : ∀ g, blkOf v = some g → g < w'.heap.size ∧ (w.heap.size ≤ g ∨ row = some g))
    (hone : v.oneCell' = true) (hb : ∀ O' θ', (∀ g, O' g ↔ O g ∨ blkOf v = some g) → (∀ i u, θ i = some u → θ' i = some u) → BlkOk w' O' θ' v b) :
    ∃ O' θ', (∀ g, O' g ↔ O g ∨ blkOf v = some g) ∧ (∀ i u, θ i = some u → θ' i = some u) ∧ θ' k = some v ∧ SimAt c (s.addAt k A b) O' θ' a w' := by
  have hrow : ∀ g, row = some g → O g ∧ g < w.heap.size ∧ (¬ c.L g → c.w0.heap.size ≤ g) ∧ ¬ c.X g ∧ HpB s θ g ∧ ∃ o, w.heap[g]? = some o ∧ memB o = true := by
    intro g hgg
    cases A with
    | none => rw [hnA rfl] at hgg; cases hgg
    | some A' =>
      obtain ⟨bA, vA, h1, h2, h3⟩ := hA A' rfl
      obtain ⟨v1, hv1, hbo1, hg1⟩ := h.hp A' bA h1
      obtain rfl : v1 = vA := by rw [h2] at hv1; cases hv1; rfl
      obtain ⟨h5, h6, h7, h8⟩ := hg1 g (by rw [← h3]; exact hgg)
      exact ⟨h5, h6, h7, h8, ⟨A', bA, v1, h1, h2, by rw [← h3]; exact hgg⟩, hbo1.cells (by rw [← h3]; exact hgg)⟩
  have hkne : ∀ i u, θ i = some u → i ≠ k := by
    intro i u hi e
    subst e
    have h1 := h.dom i u hi
    simp only [freshB, Bool.or_eq_true, List.elem_eq_mem, decide_eq_true_eq] at hk
    rcases hk with hk | hk
    · have := Nat.eq_of_beq_eq_true hk; omega
    · exact h1.2 hk
  have hθ : ∀ i u, θ i = some u → (if i = k then some v else θ i) = some u := by
    intro i u hi
    rw [if_neg (hkne i u hi)]; exact hi
  have hO : ∀ b, b < w.heap.size → ¬ O b → ¬ (O b ∨ blkOf v = some b) ∧ w'.heap[b]? = w.heap[b]? := by
    intro b hbs hn
    refine ⟨fun hh => ?_, hg.block b hbs (fun e => hn (hrow b e.symm).1)⟩
    rcases hh with hh | hh
    · exact hn hh
    · rcases (hv b hh).2 with h1 | h1
      · omega
      · exact hn (hrow b h1).1
  have hget : ∀ id bb, look id (s.addAt k A b).hp = some bb → (id = k ∧ bb = b) ∨ (id ≠ k ∧ (∀ A', A = some A' → id ≠ A') ∧ look id s.hp = some bb) := by
    intro id bb hb1
    simp only [St.addAt, look_cons] at hb1
    split at hb1
    · rename_i e; cases hb1; exact .inl ⟨e.symm, rfl⟩
    · rename_i e
      refine .inr ⟨fun e' => e e'.symm, ?_, ?_⟩
      · intro A' e1; subst e1
        simp only [look_cons] at hb1
        split at hb1
        · cases hb1
        · rename_i e2; exact fun e3 => e2 e3.symm
      · cases A with
        | none => exact hb1
        | some A' =>
          simp only [look_cons] at hb1
          split at hb1
          · cases hb1
          · exact hb1
  -- the block of an elder name that stays is not the turned one
  have hstay : ∀ id bb u g, (∀ A', A = some A' → id ≠ A') → look id s.hp = some bb → θ id = some u → blkOf u = some g → row ≠ some g := by
    intro id bb u g hne hl hu hgu e
    cases A with
    | none => rw [hnA rfl] at e; cases e
    | some A' =>
      obtain ⟨bA, vA, h1, h2, h3⟩ := hA A' rfl
      exact hne A' rfl (h.inj id A' bb bA u vA g hl h1 hu h2 hgu (by rw [← h3]; exact e))
  have hw0 : ∀ g, blkOf v = some g → (¬ c.L g → c.w0.heap.size ≤ g) ∧ ¬ c.X g := by
    intro g hgg
    rcases (hv g hgg).2 with h1 | h1
    · exact ⟨fun _ => Nat.le_trans h.ext.size h1, fun hX => by have := h.xlt g hX; have := h.ext.size; omega⟩
    · exact ⟨(hrow g h1).2.2.1, (hrow g h1).2.2.2.1⟩
  refine ⟨fun g => O g ∨ blkOf v = some g, fun i => if i = k then some v else θ i, fun _ => Iff.rfl, hθ, by simp, ?_⟩
  refine ⟨h.size, h.df, fun t x hx => (h.fr t x hx).mono hg.size hO hθ, ?_, ?_, ?_, ?_, ?_, ?_, ?_, ?_, h.xlt, h.llt, ?_, ?_, h.kp, ?_⟩
  · intro id bb hb1
    rcases hget id bb hb1 with ⟨rfl, rfl⟩ | ⟨h1, h2, h3⟩
    · refine ⟨v, by simp, hb _ _ (fun _ => Iff.rfl) hθ, fun g hgg => ?_⟩
      exact ⟨.inr hgg, (hv g hgg).1, hw0 g hgg⟩
    · obtain ⟨u, hu, hbo, hgu⟩ := h.hp id bb h3
      refine ⟨u, hθ _ _ hu, hbo.mono hg.size hO hθ ?_, fun g hgg => ?_⟩
      · intro g hgg
        exact hg.block g (hgu g hgg).2.1 (fun e => hstay id bb u g h2 h3 hu hgg e.symm)
      · obtain ⟨h5, h6, h7⟩ := hgu g hgg
        exact ⟨.inl h5, Nat.lt_of_lt_of_le h6 hg.size, h7⟩
  · intro i j bi bj vi vj g hi hj hvi hvj hgi hgj
    have fresh : ∀ id bb u, id ≠ k → (∀ A', A = some A' → id ≠ A') → look id s.hp = some bb → θ id = some u → blkOf u = some g → blkOf v = some g → False := by
      intro id bb u _ hne hl hu hgu hgv
      obtain ⟨u', hu', _, hgu'⟩ := h.hp id bb hl
      obtain rfl : u' = u := by rw [hu] at hu'; cases hu'; rfl
      rcases (hv g hgv).2 with h1 | h1
      · have := (hgu' g hgu).2.1; omega
      · exact hstay id bb u' g hne hl hu hgu h1
    rcases hget i bi hi with ⟨rfl, rfl⟩ | ⟨h1, h2, h3⟩ <;> rcases hget j bj hj with ⟨rfl, rfl⟩ | ⟨h4, h5, h6⟩
    · rfl
    · simp only [if_true, Option.some.injEq] at hvi; subst hvi
      rw [if_neg h4] at hvj
      exact (fresh j bj vj h4 h5 h6 hvj hgj hgi).elim
    · simp only [if_true, Option.some.injEq] at hvj; subst hvj
      rw [if_neg h1] at hvi
      exact (fresh i bi vi h1 h2 h3 hvi hgi hgj).elim
    · rw [if_neg h1] at hvi; rw [if_neg h4] at hvj
      exact h.inj i j bi bj vi vj g h3 h6 hvi hvj hgi hgj
  · intro id u hu
    show id < (bif Nat.beq k s.next then k + 1 else s.next) ∧ id ∉ s.free.filter fun x => !([k].elem x)
    by_cases e : id = k
    · subst e
      refine ⟨?_, by simp⟩
      cases hb : Nat.beq id s.next with
      | true => simp
      | false =>
        simp only [cond_false]
        simp only [freshB, hb, Bool.false_or, List.elem_eq_mem, decide_eq_true_eq] at hk
        exact h.flt id hk
    · simp only [if_neg e] at hu
      obtain ⟨h1, h2⟩ := h.dom id u hu
      refine ⟨?_, fun hm => h2 (List.mem_filter.1 hm).1⟩
      cases hb : Nat.beq k s.next with
      | true => have := Nat.eq_of_beq_eq_true hb; simp only [cond_true]; omega
      | false => exact h1
  · intro x hx
    have h1 := h.flt x (List.mem_filter.1 hx).1
    show x < (bif Nat.beq k s.next then k + 1 else s.next)
    cases hb : Nat.beq k s.next with
    | true => have := Nat.eq_of_beq_eq_true hb; simp only [cond_true]; omega
    | false => exact h1
  · intro id u hu
    by_cases e : id = k
    · simp only [if_pos e, Option.some.injEq] at hu; subst hu; exact hone
    · simp only [if_neg e] at hu; exact h.one id u hu
  · intro g hg'
    rcases hg' with h1 | h1
    · exact Nat.lt_of_lt_of_le (h.olt g h1) hg.size
    · exact (hv g h1).1
  · refine h.ext.grown hg fun g hgg => ?_
    by_cases hL : c.L g
    · exact .inr hL
    · exact .inl ((hrow g hgg).2.2.1 hL)
  · intro g hx; exact .inl (h.xo g hx)
  · intro d hd
    obtain ⟨D, rfl, hD, hOD, h0⟩ := h.marks d hd
    have hlt : D < w.heap.size := by
      rcases Nat.lt_or_ge D w.heap.size with h1 | h1
      · exact h1
      · rw [Array.getElem?_eq_none h1] at hD; cases hD
    exact ⟨D, rfl, by rw [hg.block D hlt (fun e => by obtain ⟨_, hh, ho⟩ := (hrow D e.symm).2.2.2.2.2; rw [hD] at hh; cases hh; cases ho)]; exact hD, .inl hOD, h0⟩
  · intro g hg' hlt
    rcases hg' with h1 | h1
    · exact h.oc g h1 hlt
    · by_cases hL : c.L g
      · exact .inr hL
      · have := (hw0 g h1).1 hL; omega
  · refine c.Jst h.jn (.of_grown hg (fun g e => ⟨.inr (.inl (hrow g e).2.2.2.2.1), (hrow g e).1⟩) (fun g hO => ?_) (fun g hO _ => .inl hO) (fun g hO => ?_) (fun g hI => ?_))
    · rcases hO with h1 | h1
      · exact .inl h1
      · rcases (hv g h1).2 with h2 | h2
        · exact .inr h2
        · exact .inl (hrow g h2).1
    · rcases hO with h1 | h1
      · exact Nat.lt_of_lt_of_le (h.olt g h1) hg.size
      · exact (hv g h1).1
    · rcases hI with hI | ⟨id, bb, u, h1, h2, h3⟩ | hI
      · exact .inl (.inl hI)
      · rcases hget id bb h1 with ⟨rfl, rfl⟩ | ⟨h4, h5, h6⟩
        · simp only [if_true, Option.some.injEq] at h2; subst h2
          rcases (hv g h3).2 with h2 | h2
          · exact .inr h2
          · exact .inl (.inr (.inl (hrow g h2).2.2.2.2.1))
        · simp only [if_neg h4] at h2
          exact .inl (.inr (.inl ⟨id, bb, u, h6, h2, h3⟩))
      · exact .inl (.inr (.inr hI))

/-- The world has grown; nothing that was there has turned. -/
theorem SimAt.grownNone {w' : World} (hs : SimAt c s O θ a w) (hg : w.grownBy w' none) : SimAt c s O θ a w' := by
  have hO : ∀ b, b < w.heap.size → ¬ O b → ¬ O b ∧ w'.heap[b]? = w.heap[b]? := fun b hb hn => ⟨hn, hg.block b hb (by simp)⟩
  refine ⟨hs.size, hs.df, fun t x hx => (hs.fr t x hx).mono hg.size hO (fun _ _ e => e), fun id b hb => ?_, hs.inj, hs.dom, hs.flt, hs.one, fun g hg' => Nat.lt_of_lt_of_le (hs.olt g hg') hg.size, hs.ext.grown hg (by simp), hs.xo, hs.xlt, hs.llt, fun d hd => ?_, hs.oc, hs.kp, ?_⟩
  · obtain ⟨v, hv, hbo, hgv⟩ := hs.hp id b hb
    exact ⟨v, hv, hbo.mono hg.size hO (fun _ _ e => e) (fun g hgg => hg.block g (hgv g hgg).2.1 (by simp)), fun g hgg => ⟨(hgv g hgg).1, Nat.lt_of_lt_of_le (hgv g hgg).2.1 hg.size, (hgv g hgg).2.2⟩⟩
  · obtain ⟨D, rfl, hD, hOD, h0⟩ := hs.marks d hd
    have hlt : D < w.heap.size := by
      rcases Nat.lt_or_ge D w.heap.size with h1 | h1
      · exact h1
      · rw [Array.getElem?_eq_none h1] at hD; cases hD
    exact ⟨D, rfl, by rw [hg.block D hlt (by simp)]; exact hD, hOD, h0⟩
  · exact c.Jst hs.jn (.of_grown hg (by simp) (fun g h => .inl h) (fun g h _ => h) (fun g h => Nat.lt_of_lt_of_le (hs.olt g h) hg.size) (fun g h => .inl h))
end
end Go.Abs
