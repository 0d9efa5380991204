/- The abstract layer that the proof stands on: no condition. -/
import Derived.Test.YtkfgkkbfipgklaaAbsS
import Derived.RangeFuncRecord
/- A range over a function: the iterator's contract; the caller's rule. -/
namespace Go.Abs
open Go.RowKit

/-- What a round leaves, seen by the iterator: `I`, the iterator's own, is as it was, and so is all that nobody may write. -/
structure Rel (O I : Nat → Prop) (w : World) (O' : Nat → Prop) (w' : World) : Prop where
  os : w'.os = w.os
  tape : w'.tape = w.tape
  output : w'.output = w.output
  size : w.heap.size ≤ w'.heap.size
  block : ∀ b, b < w.heap.size → (¬ O b ∨ I b) → w'.heap[b]? = w.heap[b]?
  o1 : ∀ g, O' g → O g ∨ w.heap.size ≤ g
  o2 : ∀ g, O g → I g → O' g
  olt : ∀ g, O' g → g < w'.heap.size

/-- Calls of yield number `l`, up to the one at which the caller leaves (`sp`): the caller takes the rows one by one. -/
def YieldOk (P : Program) (l : Nat) (m : Nat) (rows : List (List PV)) (sp : Nat) (J : Nat → (Nat → Prop) → (Nat → Prop) → World → Prop) : Prop :=
  ∀ (k : Nat) (row : List PV) (W : World) (O I : Nat → Prop) (us : Array Value), J k O I W → rows[k]? = some row → k ≤ sp → row.length = m → us.size = m →
    (∀ (i : Nat) (p : PV) (u : Value), row[i]? = some p → us[i]? = some u → Rd W O p u) → (∀ g, O g → g < W.heap.size) → (∀ g, I g → O g) →
    ∃ fn tmps assign body, (Instr.yield l us).run P W = .ok (.round l fn tmps assign body) W ∧
      RoundIn (FF none) 0 P l fn tmps assign body W fun e W' => ∃ O', e = .returned (.bool (!(k == sp))) ∧ J (k + 1) O' I W' ∧ Rel O I W O' W'

/-- What an iterator captures: values, and at most one box, which is its own. -/
def ItArgs (w : World) (O I : Nat → Prop) (pre : List PV) (bx : Option (TypeId × List PV)) (post : List PV) (vs : Array Value) : Prop :=
  match bx with
  | none => vs.size = pre.length ∧ ∀ (i : Nat) (p : PV) (v : Value), pre[i]? = some p → vs[i]? = some v → Rd w O p v
  | some (t, cells) => vs.size = pre.length + 1 + post.length ∧ (∀ (i : Nat) (p : PV) (v : Value), pre[i]? = some p → vs[i]? = some v → Rd w O p v) ∧
    (∀ (i : Nat) (p : PV) (v : Value), post[i]? = some p → vs[pre.length + 1 + i]? = some v → Rd w O p v) ∧
    ∃ g, vs[pre.length]? = some (.pointer (some ⟨g, 0, none⟩)) ∧ BlkOk w O (fun _ => none) (.pointer (some ⟨g, 0, none⟩)) (.box t (cells.map .pv)) ∧ O g ∧ I g

/-- **An iterator's contract**: it hands the rows to yield, one by one, up to the one at which the caller leaves. -/
def It (P : Program) (f : FuncId) (m : Nat) (pre : List PV) (bx : Option (TypeId × List PV)) (post : List PV) (rows : List (List PV)) (sp : Nat) : Prop :=
  ∀ (l : Nat) (J : Nat → (Nat → Prop) → (Nat → Prop) → World → Prop) (_ : ∀ {k : Nat} {O I : Nat → Prop} {w : World} {O' I' : Nat → Prop} {w' : World}, J k O I w → Stp O I w O' I' w' → J k O' I' w')
    (w : World) (O I : Nat → Prop) (vs : Array Value), (∀ g, O g → g < w.heap.size) → (∀ g, I g → O g) → ItArgs w O I pre bx post vs → YieldOk P l m rows sp J → J 0 O I w →
    Calls P f (#[.func (.yield l) #[] #[]] ++ vs) w fun e w' => ∃ v O' I', e = .returned v ∧ J (min (sp + 1) rows.length) O' I' w'

/-- What is known in the context of an iterator. -/
structure ItCx (P : Program) (l m : Nat) (rows : List (List PV)) (sp : Nat) (c : Cx) : Prop where
  y : YieldOk P l m rows sp c.J
  xk : ∀ g, c.X g → c.K g

section
variable {ro : Option Nat} {P : Program} {c : Cx} {s s' : St} {o : Oper} {d : Option Nat}

theorem Rel.stp_hp {O I : Nat → Prop} {w : World} {O' : Nat → Prop} {w' : World} (h : Rel O I w O' w') : ∀ b, b < w.heap.size → ¬ O b → ¬ O' b ∧ w'.heap[b]? = w.heap[b]? :=
  fun b hb hn => ⟨fun h2 => by rcases h.o1 b h2 with h3 | h3; exact hn h3; omega, h.block b hb (.inl hn)⟩

/-- yield. -/
theorem op_yield {fo : Operand} {xs : List Operand} {ts : Array TypeId} {l m sp : Nat} {rows : List (List PV)} {row : List PV} (hc : ItCx P l m rows sp c) (ho : o.op = .call { callee := .value fo, args := xs.toArray, argTypes := ts }) (hf : ev s fo = some (.pv (.yld l))) (hx : evl s xs = some (row.map .pv))
    (hm : row.length = m) (hr : rows[s.ys]? = some row) (hsp : s.ys ≤ sp) (hd : o.dst = d) (hn : dOk s d = true) : OpOk ro P c o s ({ s with ys := s.ys + 1 }.put d (some (.pv (.bool (!(s.ys == sp)))))) := by
  rintro a w ⟨O, θ, hs⟩ K Q hK
  obtain ⟨e1, e2⟩ := evl_ok hs hx
  have hfv := ev_pv hs hf
  generalize hfa : a.eval fo = fv at hfv
  cases hfv with
  | yld =>
    refine ⟨fun f _ => trivial, ?_⟩
    have hus : ((xs.map a.eval).toArray).size = m := by have := e1; simp at this; simp [this, hm]
    have hI : c.J s.ys O (fun g => Mine c s θ a.defers g ∧ O g) w := c.Jst hs.jn ⟨rfl, rfl, rfl, Nat.le_refl _, fun _ _ _ => rfl, fun g h => .inl h, fun g h _ => h, hs.olt, fun g h => .inl h.1⟩
    obtain ⟨fn, tmps, assign, body, hy, hround⟩ := hc.y s.ys row w O _ (xs.map a.eval).toArray hI hr hsp hm hus (fun i p u hp hu => by
      exact rda_pv (e2 i (.pv p) u (by rw [List.getElem?_map, hp]; rfl) (by simpa using hu))) hs.olt (fun g h => h.2)
    have hrun : (execOp a.eval o).run P w = .ok (.round l fn tmps assign body) w := by
      simp [execOp, ho, resolve, Deferred.ofValue, hfa, invoke, hy]
    rw [Oper.semAt_plain _ _ _ (by rw [ho]; intro k h; cases h), hrun]
    refine ⟨fun h => by simp [FF, Fence.wide] at h, ?_⟩
    refine RoundIn.mono (R := fun e W' => ∃ O', e = .returned (.bool (!(s.ys == sp))) ∧ c.J (s.ys + 1) O' (fun g => Mine c s θ a.defers g ∧ O g) W' ∧ Rel O (fun g => Mine c s θ a.defers g ∧ O g) w O' W') hround ?_
    rintro e w' ⟨O', rfl, hJ, hrel⟩
    have hO := hrel.stp_hp
    have hmine : ∀ g, Mine c s θ a.defers g → O g := by
      intro g hg
      rcases hg with hg | ⟨id, b, v, h1, h2, h3⟩ | ⟨d', h1, h2⟩
      · exact hs.xo g (c.KX g hg)
      · obtain ⟨v', hv', _, hgv⟩ := hs.hp id b h1
        rw [h2] at hv'; cases hv'
        exact (hgv g h3).1
      · obtain ⟨D, rfl, _, hOD, _⟩ := hs.marks d' h1
        cases h2; exact hOD
    have h1 : SimAt c { s with ys := s.ys + 1 } O' θ a w' := by
      refine ⟨hs.size, hs.df, fun t x hx => (hs.fr t x hx).mono hrel.size hO (fun _ _ e => e), fun id b hb => ?_, hs.inj, hs.dom, hs.flt, hs.one, hrel.olt, ⟨hrel.os.trans hs.ext.os, hrel.tape.trans hs.ext.tape, hrel.output.trans hs.ext.output, Nat.le_trans hs.ext.size hrel.size, fun b hb hL => ?_⟩, fun g hg => hrel.o2 g (hs.xo g hg) ⟨.inl (hc.xk g hg), hs.xo g hg⟩, hs.xlt, hs.llt, fun d' hd' => ?_, fun g hg hlt => ?_, hs.kp, c.Jst hJ ⟨rfl, rfl, rfl, Nat.le_refl _, fun _ _ _ => rfl, fun g h => .inl h, fun g h _ => h, hrel.olt, fun g h => .inl ⟨h, hmine g h⟩⟩⟩
      · obtain ⟨v, hv, hbo, hgv⟩ := hs.hp id b hb
        refine ⟨v, hv, hbo.mono hrel.size hO (fun _ _ e => e) (fun g hgg => hrel.block g (hgv g hgg).2.1 (.inr ⟨.inr (.inl ⟨id, b, v, hb, hv, hgg⟩), (hgv g hgg).1⟩)), fun g hgg => ?_⟩
        obtain ⟨g1, g2, g3⟩ := hgv g hgg
        exact ⟨hrel.o2 g g1 ⟨.inr (.inl ⟨id, b, v, hb, hv, hgg⟩), g1⟩, Nat.lt_of_lt_of_le g2 hrel.size, g3⟩
      · rw [← hs.ext.block b hb hL]
        refine hrel.block b (Nat.lt_of_lt_of_le hb hs.ext.size) ?_
        by_cases hOb : O b
        · right
          rcases hs.oc b hOb hb with hX | hL2
          · exact ⟨.inl (hc.xk b hX), hOb⟩
          · exact absurd hL2 hL
        · exact .inl hOb
      · obtain ⟨D, rfl, hD, hOD, h0⟩ := hs.marks d' hd'
        have hlt : D < w.heap.size := by
          rcases Nat.lt_or_ge D w.heap.size with h1 | h1
          · exact h1
          · rw [Array.getElem?_eq_none h1] at hD; cases hD
        have hm' : Mine c s θ a.defers D := .inr (.inr ⟨_, hd', rfl⟩)
        exact ⟨D, rfl, by rw [hrel.block D hlt (.inr ⟨hm', hOD⟩)]; exact hD, hrel.o2 D hOD ⟨hm', hOD⟩, h0⟩
      · rcases hrel.o1 g hg with h | h
        · exact hs.oc g h hlt
        · have := hs.ext.size; omega
    subst hd
    exact hK _ _ ⟨O', θ, h1.put _ _ _ (dOk_lt (s := s) hn) (dOk_kt (s := s) hn) (.pv _ _ (.bool _))⟩

/-! ### The iterator's own walk -/
def ItPost (P : Program) (fn : Func) (c : Cx) (k : Nat) : Exit → Act → World → Prop :=
  bodyPostM (FF none) 0 P fn fun e w' => ∃ v O' I', e = .returned v ∧ c.J k O' I' w'

theorem post_it {fn : Func} {k : Nat} {e : Exit} (hk : s.ys = k) (hr : fn.results = #[]) (he : e = .ret ∨ e = .normal) : Post c (ItPost P fn c k) e s := by
  rintro a w ⟨O, θ, hs⟩
  have key : LeavesInM (FF none) 0 P fn a.tmps (fun e w' => ∃ v O' I', e = .returned v ∧ c.J k O' I' w') a.defers .returning w := by
    refine leaves_marks a.defers a w rfl hs fun a' w' ht hs2 => ?_
    exact ⟨_, run_results (rvs := []) (us := []) hr (by simp), _, O, Mine c s θ a'.defers, rfl, by rw [← hk]; exact hs2.jn⟩
  rcases he with rfl | rfl
  · exact key
  · exact key

def itFr (l : Nat) (pre : List PV) (bx : Option (TypeId × List PV)) (post : List PV) : List (Nat × Option AV) :=
  (0, some (.pv (.yld l))) :: match bx with
    | none => argsFr 1 pre
    | some _ => (pre.length + 1, some (.lp 0 0)) :: (argsFr 1 pre ++ argsFr (pre.length + 2) post)
def itHp : Option (TypeId × List PV) → List (Nat × Option Blk)
  | none => []
  | some (t, cells) => [(0, some (.box t (cells.map .pv)))]
def itNext : Option (TypeId × List PV) → Nat
  | none => 0
  | some _ => 1

theorem look_append_or {α : Type} (t : Nat) (x : α) : ∀ (l m : List (Nat × Option α)), look t (l ++ m) = some x → look t l = some x ∨ look t m = some x
  | [], m, h => .inr h
  | (k, y) :: l, m, h => by
    simp only [List.cons_append, look_cons] at h ⊢
    split at h
    · rename_i e; rw [if_pos e]; exact .inl h
    · rename_i e; rw [if_neg e]; exact look_append_or t x l m h

/-- An iterator's contract, out of its body's walk. -/
theorem it_of_body {f : FuncId} {fn : Func} {code : Code} {n m : Nat} {pre post : List PV} {bx : Option (TypeId × List PV)} {rows : List (List PV)} {sp : Nat} (hf : P.funcs[f]? = some fn) (hb : fn.body = some code) (hn : fn.ntmps = n) (hl : Nat.ble (pre.length + post.length + 2) n = true)
    (h : ∀ l c, ItCx P l m rows sp c → AW none P c code (ItPost P fn c (min (sp + 1) rows.length)) { n := n, fr := itFr l pre bx post, hp := itHp bx, next := itNext bx }) : It P f m pre bx post rows sp := by
  intro l J Jst w O I vs hO hI hargs hy hJ
  refine (callsIn_wide (n := 0)).1 (callsIn_of_wp_marks (F := FF none) hf hb trivial ?_)
  have hl' : pre.length + post.length + 2 ≤ n := Nat.le_of_ble_eq_true hl
  let c : Cx := { w0 := w, L := O, X := fun _ => False, K := fun _ => False, J := J, Jst := Jst, KX := fun _ h => h, t0 := #[] }
  have hvs : vs.size ≤ pre.length + 1 + post.length := by
    cases bx with
    | none => have := hargs.1; omega
    | some b => obtain ⟨t, cells⟩ := b; have := hargs.1; omega
  refine h l c ⟨hy, fun g hg => hg⟩ _ w ?_
  have hget : ∀ t, t < vs.size → (#[Value.func (.yield l) #[] #[]] ++ vs ++ Array.replicate (fn.ntmps - (#[Value.func (.yield l) #[] #[]] ++ vs).size) undef).getD (t + 1) undef = vs.getD t undef := by
    intro t ht
    simp [Array.getElem?_append, ht]
  have hsize : (#[Value.func (.yield l) #[] #[]] ++ vs ++ Array.replicate (fn.ntmps - (#[Value.func (.yield l) #[] #[]] ++ vs).size) undef).size = n := by simp [hn]; omega
  have hget0 : (#[Value.func (.yield l) #[] #[]] ++ vs ++ Array.replicate (fn.ntmps - (#[Value.func (.yield l) #[] #[]] ++ vs).size) undef).getD 0 undef = .func (.yield l) #[] #[] := by
    simp [Array.getElem?_append]
  generalize (#[Value.func (.yield l) #[] #[]] ++ vs ++ Array.replicate (fn.ntmps - (#[Value.func (.yield l) #[] #[]] ++ vs).size) undef) = tm at hget hsize hget0
  have hargsfr : ∀ (ps : List PV) (k : Nat) (θ : Nat → Option Value), (∀ (i : Nat) (p : PV) (v : Value), ps[i]? = some p → vs[k + i]? = some v → Rd w O p v) → k + ps.length ≤ vs.size → ∀ t x, look t (argsFr (k + 1) ps) = some x → RdA w O θ x (tm.getD t undef) := by
    intro ps k θ hps hk t x hx
    obtain ⟨p, rfl, h1, h2⟩ := argsFr_look ps (k + 1) t x hx
    have hlt : t - (k + 1) < ps.length := (List.getElem?_eq_some_iff.1 h2).1
    have ht : t - 1 < vs.size := by omega
    have := hget (t - 1) ht
    rw [show t - 1 + 1 = t by omega] at this
    rw [this]
    have hv : vs[t - 1]? = some vs[t - 1] := by simp [ht]
    rw [show vs.getD (t - 1) undef = vs[t - 1] by simp [ht]]
    exact .pv _ _ (hps _ p _ h2 (by rw [show k + (t - (k + 1)) = t - 1 by omega]; exact hv))
  cases bx with
  | none =>
    obtain ⟨h1, h2⟩ := hargs
    refine ⟨O, fun _ => none, hsize, .nil, ?_, fun id b hb => (by simp [itHp, look] at hb), fun i j bi bj vi vj g hi => (by simp [itHp, look] at hi), fun id v hv => (by cases hv), fun k hk => (by cases hk), fun id v hv => (by cases hv), hO, ⟨rfl, rfl, rfl, Nat.le_refl _, fun _ _ _ => rfl⟩, fun g hg => hg.elim, fun g hg => hg.elim, hO, fun d hd => (by cases hd), fun g hg _ => .inr hg, fun t ht => (by cases ht), ?_⟩
    · intro t x hx
      simp only [itFr, look_cons] at hx
      split at hx
      · rename_i e; subst e; cases hx; rw [hget0]; exact .pv _ _ (.yld l)
      · exact hargsfr pre 0 _ (fun i p v hp hv => h2 i p v hp (by simpa using hv)) (by omega) t x hx
    · refine Jst hJ ⟨rfl, rfl, rfl, Nat.le_refl _, fun _ _ _ => rfl, fun g h => .inl h, fun g h _ => h, hO, fun g hI => ?_⟩
      rcases hI with hI | ⟨id, b, v, h1, _⟩ | ⟨d, hd, _⟩
      · exact hI.elim
      · simp [itHp, look] at h1
      · cases hd
  | some b =>
    obtain ⟨t, cells⟩ := b
    obtain ⟨h1, h2, h3, g, h4, h5, h6, h7⟩ := hargs
    have hp0 : vs.getD pre.length undef = .pointer (some ⟨g, 0, none⟩) := by simp [h4]
    have hlk : ∀ id b, look id (itHp (some (t, cells))) = some b → id = 0 ∧ b = .box t (cells.map .pv) := by
      intro id b hb
      simp only [itHp, look_cons] at hb
      split at hb
      · rename_i e; cases hb; exact ⟨e.symm, rfl⟩
      · simp [look] at hb
    refine ⟨O, fun i => if i = 0 then some (.pointer (some ⟨g, 0, none⟩)) else none, hsize, .nil, ?_, fun id b hb => ?_, fun i j bi bj vi vj g hi hj _ _ _ _ => by rw [(hlk i bi hi).1, (hlk j bj hj).1], fun id v hv => ?_, fun k hk => (by cases hk), fun id v hv => ?_, hO, ⟨rfl, rfl, rfl, Nat.le_refl _, fun _ _ _ => rfl⟩, fun g hg => hg.elim, fun g hg => hg.elim, hO, fun d hd => (by cases hd), fun g hg _ => .inr hg, fun t ht => (by cases ht), ?_⟩
    · intro t' x hx
      simp only [itFr, look_cons] at hx
      split at hx
      · rename_i e; subst e; cases hx; rw [hget0]; exact .pv _ _ (.yld l)
      · split at hx
        · rename_i e; subst e; cases hx
          rw [hget _ (by omega), hp0]
          exact .lp _ _ g (by simp)
        · rcases look_append_or _ _ _ _ hx with hx | hx
          · exact hargsfr pre 0 _ (fun i p v hp hv => h2 i p v hp (by simpa using hv)) (by omega) t' x hx
          · exact hargsfr post (pre.length + 1) _ h3 (by omega) t' x hx
    · obtain ⟨rfl, rfl⟩ := hlk id b hb
      refine ⟨.pointer (some ⟨g, 0, none⟩), by simp, ?_, fun g' hg' => ?_⟩
      · exact h5.mono (Nat.le_refl _) (fun b _ hn => ⟨hn, rfl⟩) (fun _ _ h => by cases h) (fun _ _ => rfl)
      · cases hg'
        exact ⟨h6, hO g h6, fun h => absurd h6 h, fun h => h⟩
    · split at hv
      · rename_i e; subst e; exact ⟨Nat.zero_lt_one, by simp⟩
      · cases hv
    · split at hv
      · cases hv; rfl
      · cases hv
    · refine Jst hJ ⟨rfl, rfl, rfl, Nat.le_refl _, fun _ _ _ => rfl, fun g h => .inl h, fun g h _ => h, hO, fun g' hI => ?_⟩
      rcases hI with hI | ⟨id, b, v, q1, q2, q3⟩ | ⟨d, hd, _⟩
      · exact hI.elim
      · obtain ⟨rfl, rfl⟩ := hlk id b q1
        simp at q2; subst q2; cases q3
        exact .inl h7
      · cases hd
end
end Go.Abs
