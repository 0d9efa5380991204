/- The abstract layer that the proof stands on: no condition. -/
import Derived.Test.YtkfgkkbfipgklaaAbsT
/- A range over a function: the caller's rule. -/
namespace Go.Abs
open Go.RowKit

section
variable {X Q E : Type}
/-- A body's rounds over a list, up to where it leaves. -/
def runs (B : X → Q → Option (Ctl E Q)) : List X → Q → Option (Ctl E Q)
  | [], q => some (.next q)
  | x :: xs, q => Option.bind (B x q) fun r => Ctl.elim r (fun e => some (.stop e)) (fun q' => runs B xs q')

theorem runs_trace (B : X → Q → Option (Ctl E Q)) : ∀ (rows : List X) (q0 : Q) (lr : Ctl E Q), runs B rows q0 = some lr → ∃ (sp : Nat) (tr : Nat → Ctl E Q), tr 0 = .next q0 ∧ tr (min (sp + 1) rows.length) = lr ∧
    ∀ k, k < min (sp + 1) rows.length → ∃ x q, rows[k]? = some x ∧ tr k = .next q ∧ B x q = some (tr (k + 1)) ∧ ((k == sp) = true → ∃ e, tr (k + 1) = .stop e) ∧ ((k == sp) = false → ∃ q', tr (k + 1) = .next q')
  | [], q0, lr, h => by
    simp only [runs, Option.some.injEq] at h
    subst h
    exact ⟨0, fun _ => .next q0, rfl, by simp, fun k hk => by simp at hk⟩
  | x :: xs, q0, lr, h => by
    simp only [runs] at h
    obtain ⟨r, hr, h⟩ := bind_some h
    cases r with
    | stop e =>
      simp only [Ctl.elim, Option.some.injEq] at h
      subst h
      refine ⟨0, fun k => if k = 0 then .next q0 else .stop e, rfl, by simp, fun k hk => ?_⟩
      have : k = 0 := by simp at hk; omega
      subst this
      exact ⟨x, q0, rfl, rfl, by simpa using hr, fun _ => ⟨e, rfl⟩, fun h => by simp at h⟩
    | next q' =>
      simp only [Ctl.elim] at h
      obtain ⟨sp, tr, h0, h1, h2⟩ := runs_trace B xs q' lr h
      have hm : min (sp + 1 + 1) (x :: xs).length = min (sp + 1) xs.length + 1 := by simp only [List.length_cons]; omega
      refine ⟨sp + 1, fun k => match k with | 0 => .next q0 | k + 1 => tr k, rfl, by rw [hm]; exact h1, fun k hk => ?_⟩
      cases k with
      | zero => exact ⟨x, q0, rfl, rfl, by show B x q0 = some (tr 0); rw [h0]; exact hr, fun h => by simp at h, fun _ => ⟨q', h0⟩⟩
      | succ k =>
        obtain ⟨x', q2, k1, k2, k3, k4, k5⟩ := h2 k (by omega)
        refine ⟨x', q2, by simpa using k1, k2, k3, fun h => k4 (by simpa using h), fun h => k5 (by simpa using h)⟩
end

/-- The slots of a round. -/
def psFr : List Nat → List PV → List (Nat × Option AV)
  | t :: ts, p :: ps => (t, some (.pv p)) :: psFr ts ps
  | _, _ => []
/-- A state in a round: yield's arguments in their slots; the slots `kt` are kept. -/
def St.round (s : St) (ps : List Nat) (row : List PV) (kt : List Nat) : St := { s with fr := psFr ps row ++ s.fr, kt := kt }
def St.kept (s : St) (kt : List Nat) : St := { s with kt := kt }

/-- How a round's body may be left. -/
def RndPost {Q E : Type} (c : Cx) (S : Q → St) (SE : E → Exit × St) (kt : List Nat) (r : Ctl E Q) : Exit → Act → World → Prop
  | .normal, a, w => ∃ q, r = .next q ∧ Sim c ((S q).kept kt) a w
  | .ret, a, w => ∃ e, r = .stop e ∧ (SE e).1 = .ret ∧ Sim c ((SE e).2.kept kt) a w
  | .exit id, a, w => ∃ e, r = .stop e ∧ (SE e).1 = .exit id ∧ Sim c ((SE e).2.kept kt) a w
  | _, _, _ => False

/-- Slots that stand for something are among `kt`. -/
def inKt (kt : List Nat) : List (Nat × Option AV) → Bool
  | [] => true
  | (t, some _) :: l => kt.elem t && inKt kt l
  | (_, none) :: l => inKt kt l
theorem inKt_spec {kt : List Nat} : ∀ {l : List (Nat × Option AV)}, inKt kt l = true → ∀ t x, look t l = some x → t ∈ kt
  | [], _, t, x, h => by simp [look] at h
  | (k, none) :: l, h, t, x, hx => by
    rw [look_cons] at hx
    split at hx
    · cases hx
    · exact inKt_spec (l := l) h t x hx
  | (k, some y) :: l, h, t, x, hx => by
    simp only [inKt, Bool.and_eq_true] at h
    rw [look_cons] at hx
    split at hx
    · rename_i e; subst e; simpa using h.1
    · exact inKt_spec h.2 t x hx

/-- The states of a loop: all of the same build. -/
structure LpSt (s : St) (kk : List Nat) (s1 : St) : Prop where
  n : s1.n = s.n
  kt : s1.kt = s.kt
  free : s1.free = []
  fr : inKt kk s1.fr = true

/-- The round's context knows what the caller's does. -/
structure CxR (c c' : Cx) : Prop where
  J : c'.J = c.J
  xk : (∀ g, c.X g → c.K g) → ∀ g, c'.X g → c'.K g

/-- State `s1` says no more than `s`. -/
def LessF (fr : List (Nat × Option AV)) : List (Nat × Option AV) → Prop
  | [] => True
  | (_, none) :: l => LessF fr l
  | (t, some x) :: l => look t fr = some x ∧ LessF fr l
theorem LessF.spec {fr : List (Nat × Option AV)} : ∀ {l : List (Nat × Option AV)}, LessF fr l → ∀ t x, (t, some x) ∈ l → look t fr = some x
  | (_, none) :: l, h, t, x, hm => by
    rcases List.mem_cons.1 hm with h1 | h1
    · cases h1
    · exact LessF.spec (l := l) h t x h1
  | (t', some x') :: l, h, t, x, hm => by
    rcases List.mem_cons.1 hm with h1 | h1
    · cases h1; exact h.1
    · exact LessF.spec (l := l) h.2 t x h1
def neB : Option Nat → Nat → Bool
  | none, _ => true
  | some k, id => !Nat.beq k id
def LessH (hp : List (Nat × Option Blk)) (nx : Nat) (kk : Option Nat) : List (Nat × Option Blk) → Prop
  | [] => True
  | (_, none) :: l => LessH hp nx kk l
  | (id, some b) :: l => (look id hp = some b ∧ Nat.blt id nx = true ∧ neB kk id = true) ∧ LessH hp nx kk l
theorem LessH.spec {hp : List (Nat × Option Blk)} {nx : Nat} {kk : Option Nat} : ∀ {l : List (Nat × Option Blk)}, LessH hp nx kk l → ∀ t x, (t, some x) ∈ l → look t hp = some x ∧ t < nx ∧ kk ≠ some t
  | (_, none) :: l, h, t, x, hm => by
    rcases List.mem_cons.1 hm with h1 | h1
    · cases h1
    · exact LessH.spec (l := l) h t x h1
  | (t', some x') :: l, h, t, x, hm => by
    rcases List.mem_cons.1 hm with h1 | h1
    · cases h1
      obtain ⟨h1, h2, h3⟩ := h.1
      refine ⟨h1, by simpa [Nat.blt_eq] using h2, ?_⟩
      rintro rfl
      simp [neB] at h3
    · exact LessH.spec (l := l) h.2 t x h1

/-- What is known while the iterator runs. -/
structure RSt (c : Cx) (s1 : St) (O I : Nat → Prop) (θ : Nat → Option Value) (a1 : Act) (w : World) (l : Nat) (rec : Loop) : Prop where
  sim : SimAt c s1 O θ a1 w
  jn : c.J s1.ys O (fun g => Mine c s1 θ a1.defers g ∨ I g ∨ g = l) w
  apart : ∀ g, HpB s1 θ g ∨ DfB a1.defers g ∨ g = l → ¬ I g
  ix : ∀ g, I g → ¬ c.X g
  ol : O l
  hl : w.heap[l]? = some (.loop rec)
  lw : c.w0.heap.size ≤ l

theorem heap_lt {w : World} {g : Nat} {o : Obj} (h : w.heap[g]? = some o) : g < w.heap.size := by
  rcases Nat.lt_or_ge g w.heap.size with h1 | h1
  · exact h1
  · rw [Array.getElem?_eq_none h1] at h; cases h

section
variable {c : Cx} {s1 : St} {O I : Nat → Prop} {θ : Nat → Option Value} {a1 : Act} {w : World} {l : Nat} {rec : Loop}

theorem RSt.hp_lt (h : RSt c s1 O I θ a1 w l rec) {g : Nat} (hg : HpB s1 θ g ∨ DfB a1.defers g ∨ g = l) : g < w.heap.size ∧ O g := by
  rcases hg with ⟨id, b, v, h1, h2, h3⟩ | ⟨d, h1, h2⟩ | rfl
  · obtain ⟨v', hv', _, hgv⟩ := h.sim.hp id b h1
    rw [h2] at hv'; cases hv'
    exact ⟨(hgv g h3).2.1, (hgv g h3).1⟩
  · obtain ⟨D, rfl, hD, hOD, _⟩ := h.sim.marks d h1
    cases h2; exact ⟨heap_lt hD, hOD⟩
  · exact ⟨heap_lt h.hl, h.ol⟩

/-- The iterator's own steps do not touch it. -/
theorem RSt.stp (h : RSt c s1 O I θ a1 w l rec) {O' I' : Nat → Prop} {w' : World} (hs : Stp O I w O' I' w') : RSt c s1 O' I' θ a1 w' l rec := by
  have hO : ∀ b, b < w.heap.size → ¬ O b → ¬ O' b ∧ w'.heap[b]? = w.heap[b]? := fun b hb hn => ⟨fun h2 => by rcases hs.o1 b h2 with h3 | h3; exact hn h3; omega, hs.block b hb (.inr hn)⟩
  have hkeep : ∀ g, HpB s1 θ g ∨ DfB a1.defers g ∨ g = l → w'.heap[g]? = w.heap[g]? ∧ O' g := fun g hg => ⟨hs.block g (h.hp_lt hg).1 (.inl (h.apart g hg)), hs.o2 g (h.hp_lt hg).2 (h.apart g hg)⟩
  have hj2 : c.J s1.ys O' (fun g => Mine c s1 θ a1.defers g ∨ I' g ∨ g = l) w' := by
    refine c.Jst h.jn ⟨hs.os, hs.tape, hs.output, hs.size, fun b hb hn => hs.block b hb ?_, hs.o1, fun g h1 h2 => hs.o2 g h1 (fun h3 => h2 (.inr (.inl h3))), hs.olt, fun g hg => ?_⟩
    · rcases hn with hn | hn
      · exact .inl fun h3 => hn (.inr (.inl h3))
      · exact .inr hn
    · rcases hg with hg | hg | hg
      · exact .inl (.inl hg)
      · rcases hs.i1 g hg with h3 | h3
        · exact .inl (.inr (.inl h3))
        · exact .inr h3
      · exact .inl (.inr (.inr hg))
  have hsim := h.sim
  refine ⟨⟨hsim.size, hsim.df, fun t x hx => (hsim.fr t x hx).mono hs.size hO (fun _ _ e => e), fun id b hb => ?_, hsim.inj, hsim.dom, hsim.flt, hsim.one, hs.olt, ⟨hs.os.trans hsim.ext.os, hs.tape.trans hsim.ext.tape, hs.output.trans hsim.ext.output, Nat.le_trans hsim.ext.size hs.size, fun b hb hL => ?_⟩, fun g hg => hs.o2 g (hsim.xo g hg) (fun hI => h.ix g hI hg), hsim.xlt, hsim.llt, fun d hd => ?_, fun g hg hlt => ?_, hsim.kp, ?_⟩, hj2, ?_, ?_, (hkeep l (.inr (.inr rfl))).2, ?_, h.lw⟩
  · obtain ⟨v, hv, hbo, hgv⟩ := hsim.hp id b hb
    refine ⟨v, hv, hbo.mono hs.size hO (fun _ _ e => e) (fun g hgg => (hkeep g (.inl ⟨id, b, v, hb, hv, hgg⟩)).1), fun g hgg => ?_⟩
    exact ⟨(hkeep g (.inl ⟨id, b, v, hb, hv, hgg⟩)).2, Nat.lt_of_lt_of_le (hgv g hgg).2.1 hs.size, (hgv g hgg).2.2⟩
  · rw [← hsim.ext.block b hb hL]
    refine hs.block b (Nat.lt_of_lt_of_le hb hsim.ext.size) ?_
    by_cases hOb : O b
    · rcases hsim.oc b hOb hb with hX | hL2
      · exact .inl fun hI => h.ix b hI hX
      · exact absurd hL2 hL
    · exact .inr hOb
  · obtain ⟨D, rfl, hD, hOD, h0⟩ := hsim.marks d hd
    have := hkeep D (.inr (.inl ⟨_, hd, rfl⟩))
    exact ⟨D, rfl, by rw [this.1]; exact hD, this.2, h0⟩
  · rcases hs.o1 g hg with h1 | h1
    · exact hsim.oc g h1 hlt
    · have := hsim.ext.size; omega
  · exact c.Jst hj2 ⟨rfl, rfl, rfl, Nat.le_refl _, fun _ _ _ => rfl, fun g h => .inl h, fun g h _ => h, hs.olt, fun g hg => .inl (.inl hg)⟩
  · intro g hg hI
    rcases hs.i1 g hI with h1 | h1
    · exact h.apart g hg h1
    · have := (h.hp_lt hg).1; omega
  · intro g hI hX
    rcases hs.i1 g hI with h1 | h1
    · exact h.ix g h1 hX
    · have := hsim.xlt g hX; have := hsim.ext.size; omega
  · rw [(hkeep l (.inr (.inr rfl))).1]; exact h.hl

/-- The record is turned. -/
theorem RSt.turn (h : RSt c s1 O I θ a1 w l rec) (rec' : Loop) : RSt c s1 O I θ a1 (w.putObj l (.loop rec')) l rec' := by
  have hne : ∀ (g : Nat) (ob : Obj), w.heap[g]? = some ob → memB ob = true → (w.putObj l (.loop rec')).heap[g]? = w.heap[g]? := fun g ob hg ho => World.putObj_heap_other (fun e => by subst e; rw [h.hl] at hg; cases hg; cases ho)
  have hO : ∀ b, b < w.heap.size → ¬ O b → ¬ O b ∧ (w.putObj l (.loop rec')).heap[b]? = w.heap[b]? := fun b hb hn => ⟨hn, World.putObj_heap_other (fun e => hn (e ▸ h.ol))⟩
  have hsz : w.heap.size ≤ (w.putObj l (.loop rec')).heap.size := by simp
  have hj2 : c.J s1.ys O (fun g => Mine c s1 θ a1.defers g ∨ I g ∨ g = l) (w.putObj l (.loop rec')) := by
    refine c.Jst h.jn ⟨rfl, rfl, rfl, hsz, fun b hb hn => World.putObj_heap_other (fun e => ?_), fun g h => .inl h, fun g h _ => h, fun g hg => by simpa using h.sim.olt g hg, fun g hg => .inl hg⟩
    subst e
    rcases hn with hn | hn
    · exact hn (.inr (.inr rfl))
    · exact hn h.ol
  have hsim := h.sim
  refine ⟨⟨hsim.size, hsim.df, fun t x hx => (hsim.fr t x hx).mono hsz hO (fun _ _ e => e), fun id b hb => ?_, hsim.inj, hsim.dom, hsim.flt, hsim.one, fun g hg => by simpa using hsim.olt g hg, ⟨hsim.ext.os, hsim.ext.tape, hsim.ext.output, by simpa using hsim.ext.size, fun b hb hL => ?_⟩, hsim.xo, hsim.xlt, hsim.llt, fun d hd => ?_, hsim.oc, hsim.kp, ?_⟩, hj2, h.apart, h.ix, h.ol, World.putObj_heap_same (heap_lt h.hl), h.lw⟩
  · obtain ⟨v, hv, hbo, hgv⟩ := hsim.hp id b hb
    exact ⟨v, hv, hbo.mono hsz hO (fun _ _ e => e) (fun g hgg => by obtain ⟨ob, hh, ho⟩ := hbo.cells hgg; exact hne g ob hh ho), fun g hgg => by simpa using hgv g hgg⟩
  · rw [World.putObj_heap_other (by have := h.lw; omega)]
    exact hsim.ext.block b hb hL
  · obtain ⟨D, rfl, hD, hOD, h0⟩ := hsim.marks d hd
    exact ⟨D, rfl, by rw [World.putObj_heap_other (fun e => by subst e; rw [h.hl] at hD; cases hD)]; exact hD, hOD, h0⟩
  · exact c.Jst hj2 ⟨rfl, rfl, rfl, Nat.le_refl _, fun _ _ _ => rfl, fun g h => .inl h, fun g h _ => h, fun g hg => by simpa using hsim.olt g hg, fun g hg => .inl (.inl hg)⟩
end
end Go.Abs
