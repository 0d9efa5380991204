/- The abstract layer that the proof stands on: no condition. -/
import Derived.Test.YtkfgkkbfipgklaaAbsU
/- A range over a function: one round; the statement. -/
namespace Go.Abs
open Go.RowKit

theorem fold_set (ps : List Nat) : ∀ (us : List Value) (tm : Array Value), us.length = ps.length → ps.Nodup →
    ((ps.zip us).foldl (fun tm (t, u) => tm.setIfInBounds t u) tm).size = tm.size ∧ (∀ t, t ∉ ps → ((ps.zip us).foldl (fun tm (t, u) => tm.setIfInBounds t u) tm).getD t undef = tm.getD t undef) ∧
    ∀ (i t : Nat) (u : Value), ps[i]? = some t → us[i]? = some u → t < tm.size → ((ps.zip us).foldl (fun tm (t, u) => tm.setIfInBounds t u) tm).getD t undef = u := by
  induction ps with
  | nil => intro us tm _ _; exact ⟨rfl, fun _ _ => rfl, fun i t u h => by simp at h⟩
  | cons p ps ih =>
    intro us tm hl hnd
    cases us with
    | nil => simp at hl
    | cons u us =>
      simp only [List.zip_cons_cons, List.foldl_cons]
      obtain ⟨h1, h2, h3⟩ := ih us (tm.setIfInBounds p u) (by simpa using hl) (List.nodup_cons.1 hnd).2
      refine ⟨by rw [h1]; simp, fun t ht => ?_, fun i t v hi hv hlt => ?_⟩
      · rw [h2 t (fun h => ht (List.mem_cons_of_mem _ h))]
        have hne : p ≠ t := fun e => ht (by simp [e])
        simp [Array.getElem?_setIfInBounds_ne hne]
      · cases i with
        | zero =>
          simp at hi hv; subst hi; subst hv
          rw [h2 p (List.nodup_cons.1 hnd).1]
          simp [hlt]
        | succ i =>
          exact h3 i t v (by simpa using hi) (by simpa using hv) (by simpa using hlt)

theorem psFr_look : ∀ (ps : List Nat) (row : List PV) (t : Nat) (x : AV), look t (psFr ps row) = some x → ∃ (i : Nat) (p : PV), x = .pv p ∧ ps[i]? = some t ∧ row[i]? = some p
  | [], row, t, x, h => by simp [psFr, look] at h
  | _ :: _, [], t, x, h => by simp [psFr, look] at h
  | t' :: ps, p :: row, t, x, h => by
    simp only [psFr, look_cons] at h
    split at h
    · rename_i e; subst e; cases h; exact ⟨0, p, rfl, rfl, rfl⟩
    · obtain ⟨i, q, h1, h2, h3⟩ := psFr_look ps row t x h
      exact ⟨i + 1, q, h1, by simpa using h2, by simpa using h3⟩
theorem psFr_not {ps : List Nat} {row : List PV} {t : Nat} (h : ∀ (i t' : Nat), ps[i]? = some t' → i < row.length → t' ≠ t) (l : List (Nat × Option AV)) : look t (psFr ps row ++ l) = look t l := by
  induction ps generalizing row with
  | nil => rfl
  | cons p ps ih =>
    cases row with
    | nil => rfl
    | cons q row =>
      simp only [psFr, List.cons_append, look_cons]
      rw [if_neg (h 0 p rfl (by simp))]
      exact ih fun i t' hi hl => h (i + 1) t' (by simpa using hi) (by simpa using hl)

section
variable {X Q E : Type} {P : Program} {c : Cx}

/-- The end of a loop: which jump is pending. -/
def jumpOf : Exit → Option Code
  | .ret => some .ret
  | .exit id => some (.exit id)
  | _ => none

/-- The loop's record. -/
def mkRec (fn : FuncId) (tmps : Array Value) (ps : Array Tmp) (asg body : Code) (D : Nat) (st : LoopState) (pe : Option Code) : Loop :=
  { state := st, pending := pe, fn, tmps, params := ps, assign := asg, body, defers := D }

/-- The assignments at a round's beginning lead to state `s1`. -/
def Cut1 (c : Cx) (s1 : St) : Exit → Act → World → Prop
  | .normal, a, w => Sim c s1 a w
  | _, _, _ => False
theorem post_cut1 {c : Cx} {s s1 : St} (hi : Imp c s s1) : Post c (Cut1 c s1) .normal s := fun a w hs => hi a w hs

/-- A loop's state behind some calls of yield. -/
def RTr (c : Cx) (S : Q → St) (SE : E → Exit × St) (a1 : Act) (l : Nat) (rec : LoopState → Option Code → Loop) (r : Ctl E Q) (O I : Nat → Prop) (w : World) : Prop :=
  match r with
  | .next q => ∃ θ, RSt c (S q) O I θ a1 w l (rec .ready none)
  | .stop e => ∃ θ, RSt c (SE e).2 O I θ a1 w l (rec .done (jumpOf (SE e).1))

theorem SimAt.turned {c : Cx} {s : St} {O : Nat → Prop} {θ : Nat → Option Value} {a : Act} {w : World} {l : Nat} {rec rec' : Loop} (hs : SimAt c s O θ a w) (hl : w.heap[l]? = some (.loop rec)) (hX : c.X l) (hK : c.K l) :
    SimAt { c with w0 := c.w0.putObj l (.loop rec') } s O θ a (w.putObj l (.loop rec')) := by
  have hol := hs.xo l hX
  have hlt := hs.xlt l hX
  have hO : ∀ b, b < w.heap.size → ¬ O b → ¬ O b ∧ (w.putObj l (.loop rec')).heap[b]? = w.heap[b]? := fun b hb hn => ⟨hn, World.putObj_heap_other (fun e => hn (e ▸ hol))⟩
  have hsz : w.heap.size ≤ (w.putObj l (.loop rec')).heap.size := by simp
  refine ⟨hs.size, hs.df, fun t x hx => (hs.fr t x hx).mono hsz hO (fun _ _ e => e), fun id b hb => ?_, hs.inj, hs.dom, hs.flt, hs.one, fun g hg => by simpa using hs.olt g hg, ⟨hs.ext.os, hs.ext.tape, hs.ext.output, by simpa using hs.ext.size, fun b hb hL => ?_⟩, hs.xo, fun g hg => by simpa using hs.xlt g hg, fun g hg => by simpa using hs.llt g hg, fun d hd => ?_, fun g hg hlt => hs.oc g hg (by simpa using hlt), hs.kp, ?_⟩
  · obtain ⟨v, hv, hbo, hgv⟩ := hs.hp id b hb
    exact ⟨v, hv, hbo.mono hsz hO (fun _ _ e => e) (fun g hgg => World.putObj_heap_other (fun e => by obtain ⟨_, hh, ho⟩ := hbo.cells hgg; rw [e, hl] at hh; cases hh; cases ho)), fun g hgg => by simpa using hgv g hgg⟩
  · by_cases hbl : b = l
    · subst hbl
      rw [World.putObj_heap_same (heap_lt hl), World.putObj_heap_same hlt]
    · rw [World.putObj_heap_other hbl, World.putObj_heap_other hbl]
      exact hs.ext.block b (by simpa using hb) hL
  · obtain ⟨D, rfl, hD, hOD, h0⟩ := hs.marks d hd
    exact ⟨D, rfl, by rw [World.putObj_heap_other (fun e => by subst e; rw [hl] at hD; cases hD)]; exact hD, hOD, by simpa using h0⟩
  · refine c.Jst hs.jn ⟨rfl, rfl, rfl, hsz, fun b hb hn => World.putObj_heap_other (fun e => ?_), fun g h => .inl h, fun g h _ => h, fun g hg => by simpa using hs.olt g hg, fun g hg => .inl hg⟩
    subst e
    rcases hn with hn | hn
    · exact hn (.inl hK)
    · exact hn hol

theorem round_ok {s : St} {kt psl : List Nat} {ps : Array Tmp} {asg body : Code} {fn : FuncId} {a0 a1 : Act} {D l : Nat} {S : Q → St} {SE : E → Exit × St} {q : Q} {r : Ctl E Q} {row : List PV} {W : World} {O I : Nat → Prop} {us : Array Value} (SA : St)
    (hpsl : ps = psl.toArray) (hnd : psl.Nodup) (hkp : (psl.all fun t => !kt.elem t && Nat.blt t s.n) = true)
    (hS : ∀ q, LpSt s kt (S q)) (hSE : ∀ e, LpSt s kt (SE e).2)
    (ha : a1.tmps = a0.tmps) (hsz : a0.tmps.size = s.n) (husz : us.size = psl.length)
    (hrd : ∀ (i : Nat) (p : PV) (u : Value), row[i]? = some p → us[i]? = some u → Rd W O p u) (hIO : ∀ g, I g → O g)
    (h : ∃ θ, RSt c (S q) O I θ a1 W l (mkRec fn a0.tmps ps asg body D .ready none))
    (hasg : ∀ c', CxR c c' → AW (some l) P c' asg (Cut1 c' SA) ((S q).round psl row kt))
    (hbody : ∀ c', CxR c c' → AW (some l) P c' body (RndPost c' S SE kt r) SA) :
    ∃ fn' tmps assign body', (Instr.yield l us).run P W = .ok (.round l fn' tmps assign body') W ∧
      RoundIn (FF none) 0 P l fn' tmps assign body' W fun e W' => ∃ O', e = .returned (.bool (match r with | .next _ => true | .stop _ => false)) ∧ RTr c S SE a1 l (mkRec fn a0.tmps ps asg body D) r O' I W' ∧ Rel O I W O' W' := by
  subst hpsl
  obtain ⟨θ, h⟩ := h
  have hy := run_yield (P := P) (args := us) h.hl (by simp [mkRec, husz])
  have hfold : (psl.toArray.zip us).foldl (fun tm (t, u) => tm.setIfInBounds t u) a0.tmps = (psl.zip us.toList).foldl (fun tm (t, u) => tm.setIfInBounds t u) a0.tmps := by
    rw [← Array.foldl_toList]
    simp [Array.toList_zip]
  have hul : us.toList.length = psl.length := by simpa using husz
  obtain ⟨f1, f2, f3⟩ := fold_set psl us.toList a0.tmps hul hnd
  rw [← hfold] at f1 f2 f3
  refine ⟨fn, _, asg, body, hy, roundIn_of_wpIn trivial ?_⟩
  simp only [mkRec]
  generalize (psl.toArray.zip us).foldl (fun tm (t, u) => tm.setIfInBounds t u) a0.tmps = tm at f1 f2 f3 ⊢
  have h2 := h.turn { (mkRec fn a0.tmps psl.toArray asg body D .ready none) with state := .busy }
  have hWs : (W.putObj l (.loop { (mkRec fn a0.tmps psl.toArray asg body D .ready none) with state := .busy })).heap.size = W.heap.size := by simp
  have hWb : ∀ b, b ≠ l → (W.putObj l (.loop { (mkRec fn a0.tmps psl.toArray asg body D .ready none) with state := .busy })).heap[b]? = W.heap[b]? := fun b hb => World.putObj_heap_other hb
  have hWos : (W.putObj l (.loop { (mkRec fn a0.tmps psl.toArray asg body D .ready none) with state := .busy })).os = W.os ∧ (W.putObj l (.loop { (mkRec fn a0.tmps psl.toArray asg body D .ready none) with state := .busy })).tape = W.tape ∧ (W.putObj l (.loop { (mkRec fn a0.tmps psl.toArray asg body D .ready none) with state := .busy })).output = W.output := ⟨rfl, rfl, rfl⟩
  generalize hW2 : W.putObj l (.loop { (mkRec fn a0.tmps psl.toArray asg body D .ready none) with state := .busy }) = W2 at *
  have hs := h2.sim
  let c' : Cx := { w0 := W2, L := fun g => O g ∧ ¬ (c.X g ∨ I g ∨ DfB a1.defers g ∨ g = l), X := fun g => c.X g ∨ I g ∨ DfB a1.defers g ∨ g = l, K := fun g => c.K g ∨ I g ∨ DfB a1.defers g ∨ g = l, J := c.J, Jst := c.Jst, KX := fun g hg => hg.elim (fun h => .inl (c.KX g h)) (fun h => .inr h), t0 := a0.tmps }
  have hXO : ∀ g, c'.X g → O g := by
    intro g hg
    rcases hg with hg | hg | hg | hg
    · exact hs.xo g hg
    · exact hIO g hg
    · exact (h2.hp_lt (.inr (.inl hg))).2
    · exact (h2.hp_lt (.inr (.inr hg))).2
  have hpsk : ∀ (i t : Nat), psl[i]? = some t → t ∉ kt ∧ t < s.n := by
    intro i t hi
    have := List.all_eq_true.1 hkp t (List.mem_of_getElem? hi)
    simpa [Nat.blt_eq] using this
  have hcells : ∀ g, HpB (S q) θ g → ¬ c'.X g := by
    rintro g ⟨id, b, v, q1, q2, q3⟩ hX
    obtain ⟨v', hv', hbo, hgv⟩ := hs.hp id b q1
    rw [q2] at hv'; cases hv'
    obtain ⟨_, hcl, hmb⟩ := hbo.cells q3
    rcases hX with hX | hX | ⟨d, hd, hd2⟩ | hX
    · exact (hgv g q3).2.2.2 hX
    · exact h2.apart g (.inl ⟨id, b, v, q1, q2, q3⟩) hX
    · obtain ⟨D', rfl, hD', _⟩ := hs.marks d hd
      cases hd2; rw [hD'] at hcl; cases hcl; cases hmb
    · subst hX; rw [h2.hl] at hcl; cases hcl; cases hmb
  let c1 : Cx := { c' with w0 := W }
  have hXlt : ∀ g, c'.X g → g < W.heap.size := fun g hg => by rw [← hWs]; exact hs.olt g (hXO g hg)
  have hstart : Sim c1 ((S q).round psl row kt) { tmps := tm, defers := [] } W := by
    refine ⟨O, θ, by show tm.size = (S q).n; rw [f1, hsz, (hS q).n], .nil, fun t x hx => ?_, fun id b hb => ?_, h.sim.inj, h.sim.dom, h.sim.flt, h.sim.one, h.sim.olt, ⟨rfl, rfl, rfl, Nat.le_refl _, fun _ _ _ => rfl⟩, hXO, fun g hg => h.sim.olt g (hXO g hg), fun g hg => h.sim.olt g hg.1, fun d hd => (by cases hd), fun g hg _ => ?_, fun t ht => ?_, ?_⟩
    · by_cases hps : ∃ i : Nat, psl[i]? = some t
      · obtain ⟨i, hi⟩ := hps
        have hx' : look t (psFr psl row ++ (S q).fr) = some x := hx
        rcases look_append_or _ _ _ _ hx' with hx2 | hx2
        · obtain ⟨j, p, rfl, hj, hp⟩ := psFr_look _ _ _ _ hx2
          have hju : j < us.toList.length := by rw [hul]; exact (List.getElem?_eq_some_iff.1 hj).1
          have hu : us.toList[j]? = some us.toList[j] := List.getElem?_eq_getElem hju
          show RdA W O θ (.pv p) (tm.getD t undef)
          rw [f3 j t us.toList[j] hj hu (by rw [hsz]; exact (hpsk j t hj).2)]
          exact .pv _ _ (hrd j p _ hp (by simp))
        · exact absurd (inKt_spec (hS q).fr t x hx2) (hpsk i t hi).1
      · have hx' : look t (psFr psl row ++ (S q).fr) = some x := hx
        rw [psFr_not (ps := psl) (row := row) (t := t) (fun i t' hi _ e => hps ⟨i, by rw [← e]; exact hi⟩)] at hx'
        show RdA W O θ x (tm.getD t undef)
        rw [f2 t (fun hm => hps (by obtain ⟨i, hi⟩ := List.getElem?_of_mem hm; exact ⟨i, hi⟩)), ← ha]
        exact h.sim.fr t x hx'
    · obtain ⟨v, hv, hbo, hgv⟩ := h.sim.hp id b hb
      refine ⟨v, hv, hbo, fun g hgg => ?_⟩
      have hX := hcells g ⟨id, b, v, hb, hv, hgg⟩
      exact ⟨(hgv g hgg).1, (hgv g hgg).2.1, fun hL => absurd ⟨(hgv g hgg).1, hX⟩ hL, hX⟩
    · by_cases hX : c'.X g
      · exact .inl hX
      · exact .inr ⟨hg, hX⟩
    · have : t ∉ psl := fun hm => by obtain ⟨i, hi⟩ := List.getElem?_of_mem hm; exact (hpsk i t hi).1 ht
      exact f2 t this
    · refine c.Jst h.jn ⟨rfl, rfl, rfl, Nat.le_refl _, fun _ _ _ => rfl, fun g h => .inl h, fun g h _ => h, h.sim.olt, fun g hg => .inl ?_⟩
      rcases hg with (hg | hg | hg | hg) | hg | ⟨d, hd, _⟩
      · exact .inl (.inl hg)
      · exact .inr (.inl hg)
      · exact .inl (.inr (.inr hg))
      · exact .inr (.inr hg)
      · exact .inl (.inr (.inl hg))
      · cases hd
  have hcx : CxR c c' := ⟨rfl, fun hxk g hg => by
    rcases hg with hg | hg
    · exact .inl (hxk g hg)
    · exact .inr hg⟩
  -- behind the body
  have after : ∀ (s2 : St) (a2 : Act) (W3 : World), s2 = s2 → LpSt s kt s2 → Sim c' (s2.kept kt) a2 W3 → ∃ O' θ', Rel O I W O' W3 ∧ RSt c s2 O' I θ' a1 W3 l { (mkRec fn a0.tmps psl.toArray asg body D .ready none) with state := .busy } := by
    rintro s2 a2 W3 - hs2 ⟨O', θ', h3⟩
    have hsz3 : W2.heap.size ≤ W3.heap.size := h3.ext.size
    have hLX : ∀ g, c'.L g → O g ∧ ¬ c'.X g := fun g hg => hg
    have hXs : ∀ g, c'.X g → W3.heap[g]? = W2.heap[g]? ∧ O' g := fun g hg => ⟨h3.ext.block g (hs.olt g (hXO g hg)) (fun hL => (hLX g hL).2 hg), h3.xo g hg⟩
    have hO'O : ∀ g, O' g → g < W2.heap.size → O g := fun g hg hlt => by
      rcases h3.oc g hg hlt with hX | hL
      · exact hXO g hX
      · exact hL.1
    refine ⟨O', θ', ⟨h3.ext.os.trans hWos.1, h3.ext.tape.trans hWos.2.1, h3.ext.output.trans hWos.2.2, by rw [← hWs]; exact hsz3, fun b hb hn => ?_, fun g hg => ?_, fun g _ hI => (hXs g (.inr (.inl hI))).2, h3.olt⟩, ?_⟩
    · have hb2 : W3.heap[b]? = W2.heap[b]? := h3.ext.block b (by rw [hWs]; exact hb) (fun hL => by
        rcases hn with hn | hn
        · exact hn (hLX b hL).1
        · exact (hLX b hL).2 (.inr (.inl hn)))
      rw [hb2]
      refine hWb b (fun e => ?_)
      subst e
      rcases hn with hn | hn
      · exact hn h.ol
      · exact h.apart b (.inr (.inr rfl)) hn
    · rcases Nat.lt_or_ge g W2.heap.size with hlt | hge
      · exact .inl (hO'O g hg hlt)
      · exact .inr (by rw [← hWs]; exact hge)
    · have hj2 : c.J s2.ys O' (fun g => Mine c s2 θ' a1.defers g ∨ I g ∨ g = l) W3 := by
        refine c.Jst h3.jn ⟨rfl, rfl, rfl, Nat.le_refl _, fun _ _ _ => rfl, fun g h => .inl h, fun g h _ => h, h3.olt, fun g hg => .inl ?_⟩
        rcases hg with (hg | hg | hg) | hg | hg
        · exact .inl (.inl hg)
        · exact .inr (.inl hg)
        · exact .inl (.inr (.inr (.inl hg)))
        · exact .inl (.inr (.inl hg))
        · exact .inl (.inr (.inr (.inr hg)))
      have hhpX : ∀ g, HpB s2 θ' g → ¬ c'.X g ∧ (¬ c.L g → c.w0.heap.size ≤ g) ∧ O' g := by
        rintro g ⟨id, b, v, q1, q2, q3⟩
        obtain ⟨v', hv', hbo, hgv⟩ := h3.hp id b q1
        rw [q2] at hv'; cases hv'
        obtain ⟨g1, g2, g3, g4⟩ := hgv g q3
        refine ⟨g4, fun hcL => ?_, g1⟩
        rcases Nat.lt_or_ge g c.w0.heap.size with hlt | hge
        · exfalso
          have hlt2 : g < W2.heap.size := Nat.lt_of_lt_of_le hlt hs.ext.size
          rcases hs.oc g (hO'O g g1 hlt2) hlt with hX | hL
          · exact g4 (.inl hX)
          · exact hcL hL
        · exact hge
      refine ⟨⟨by rw [ha, hsz, hs2.n], hs.df, fun t x hx => ?_, fun id b hb => ?_, h3.inj, h3.dom, h3.flt, h3.one, h3.olt, ⟨h3.ext.os.trans hs.ext.os, h3.ext.tape.trans hs.ext.tape, h3.ext.output.trans hs.ext.output, Nat.le_trans hs.ext.size hsz3, fun b hb hL => ?_⟩, fun g hg => (hXs g (.inl hg)).2, hs.xlt, hs.llt, fun d hd => ?_, fun g hg hlt => hs.oc g (hO'O g hg (Nat.lt_of_lt_of_le hlt hs.ext.size)) hlt, ?_, ?_⟩, hj2, ?_, h2.ix, (hXs l (.inr (.inr (.inr rfl)))).2, ?_, h2.lw⟩
      · have hk := h3.kp t (inKt_spec hs2.fr t x hx)
        have : a2.tmps.getD t undef = a0.tmps.getD t undef := hk
        rw [ha, ← this]
        exact h3.fr t x hx
      · obtain ⟨v, hv, hbo, hgv⟩ := h3.hp id b hb
        refine ⟨v, hv, hbo, fun g hgg => ?_⟩
        obtain ⟨q1, q2, q3⟩ := hhpX g ⟨id, b, v, hb, hv, hgg⟩
        exact ⟨q3, (hgv g hgg).2.1, q2, fun hX => q1 (.inl hX)⟩
      · rw [← hs.ext.block b hb hL]
        refine h3.ext.block b (Nat.lt_of_lt_of_le hb hs.ext.size) (fun hL2 => ?_)
        rcases hs.oc b (hLX b hL2).1 hb with hX | hL3
        · exact (hLX b hL2).2 (.inl hX)
        · exact hL hL3
      · obtain ⟨D', rfl, hD', hOD', h0⟩ := hs.marks d hd
        have hX : c'.X D' := .inr (.inr (.inl ⟨_, hd, rfl⟩))
        exact ⟨D', rfl, by rw [(hXs D' hX).1]; exact hD', (hXs D' hX).2, h0⟩
      · intro t ht
        rw [hs2.kt] at ht
        exact hs.kp t (by rw [(hS q).kt]; exact ht)
      · exact c.Jst hj2 ⟨rfl, rfl, rfl, Nat.le_refl _, fun _ _ _ => rfl, fun g h => .inl h, fun g h _ => h, h3.olt, fun g hg => .inl (.inl hg)⟩
      · intro g hg hI
        rcases hg with hg | hg | hg
        · exact (hhpX g hg).1 (.inr (.inl hI))
        · exact h2.apart g (.inr (.inl hg)) hI
        · exact h2.apart g (.inr (.inr hg)) hI
      · rw [(hXs l (.inr (.inr (.inr rfl)))).1]; exact h2.hl
  have fin : ∀ (s2 : St) (a2 : Act) (W3 : World) (jump : Option Code), LpSt s kt s2 → Sim c' (s2.kept kt) a2 W3 → ∃ O', (Instr.endRound l jump).run P W3 = .ok (.bool jump.isNone) (W3.putObj l (.loop (mkRec fn a0.tmps psl.toArray asg body D (if jump.isNone then .ready else .done) jump))) ∧
      Rel O I W O' (W3.putObj l (.loop (mkRec fn a0.tmps psl.toArray asg body D (if jump.isNone then .ready else .done) jump))) ∧ ∃ θ', RSt c s2 O' I θ' a1 (W3.putObj l (.loop (mkRec fn a0.tmps psl.toArray asg body D (if jump.isNone then .ready else .done) jump))) l (mkRec fn a0.tmps psl.toArray asg body D (if jump.isNone then .ready else .done) jump) := by
    intro s2 a2 W3 jump hs2 h3
    obtain ⟨O', θ', hrel, hst⟩ := after s2 a2 W3 rfl hs2 h3
    refine ⟨O', run_endRound jump hst.hl, ⟨hrel.os, hrel.tape, hrel.output, by simpa using hrel.size, fun b hb hn => ?_, hrel.o1, hrel.o2, fun g hg => by simpa using hrel.olt g hg⟩, θ', hst.turn _⟩
    rw [World.putObj_heap_other (fun e => ?_)]
    · exact hrel.block b hb hn
    · subst e
      rcases hn with hn | hn
      · exact hn h.ol
      · exact h.apart b (.inr (.inr rfl)) hn
  have hcx1 : CxR c c1 := ⟨rfl, hcx.xk⟩
  refine wpIn_mono (hasg c1 hcx1 _ _ hstart) ?_
  rintro e aA WA hA
  cases e with
  | exit id => exact hA.elim
  | ret => exact hA.elim
  | goto t => exact hA.elim
  | panic ch => exact hA.elim
  | outgrown => exact hA.elim
  | normal =>
  obtain ⟨OA, θA, hsA⟩ := hA
  have hXl : c1.X l := .inr (.inr (.inr rfl))
  have hlA : WA.heap[l]? = some (.loop (mkRec fn a0.tmps psl.toArray asg body D .ready none)) := by
    rw [hsA.ext.block l (heap_lt h.hl) (fun hL => hL.2 hXl)]; exact h.hl
  refine ⟨_, run_beginRound hlA rfl, ?_⟩
  have hsB := hsA.turned (rec' := { (mkRec fn a0.tmps psl.toArray asg body D .ready none) with state := .busy }) hlA hXl (.inr (.inr (.inr rfl)))
  have hc'' : ({ c1 with w0 := c1.w0.putObj l (.loop { (mkRec fn a0.tmps psl.toArray asg body D .ready none) with state := .busy }) } : Cx) = c' := by
    show ({ c' with w0 := W.putObj l (.loop { (mkRec fn a0.tmps psl.toArray asg body D .ready none) with state := .busy }) } : Cx) = c'
    rw [hW2]
  rw [hc''] at hsB
  refine wpIn_mono (hbody c' hcx _ _ ⟨OA, θA, hsB⟩) ?_
  rintro e a2 W3 hp
  cases e with
  | normal =>
    obtain ⟨q', rfl, hs3⟩ := hp
    obtain ⟨O', k1, k2, k3⟩ := fin _ a2 W3 none (hS q') hs3
    exact ⟨_, _, k1, O', rfl, k3, k2⟩
  | ret =>
    obtain ⟨e', rfl, he, hs3⟩ := hp
    obtain ⟨O', k1, k2, k3⟩ := fin _ a2 W3 (some .ret) (hSE e') hs3
    exact ⟨_, _, k1, O', rfl, by simpa [RTr, he, jumpOf] using k3, k2⟩
  | exit id =>
    obtain ⟨e', rfl, he, hs3⟩ := hp
    obtain ⟨O', k1, k2, k3⟩ := fin _ a2 W3 (some (.exit id)) (hSE e') hs3
    exact ⟨_, _, k1, O', rfl, by simpa [RTr, he, jumpOf] using k3, k2⟩
  | goto t => exact hp.elim
  | panic ch => exact hp.elim
  | outgrown => exact hp.elim

/-- The closure that is ranged over. -/
def GOk (s : St) (g : Operand) (f : Nat) (pre : List PV) (bx : Option (TypeId × List PV)) (post : List PV) : Option Nat → Prop
  | none => bx = none ∧ ev s g = some (.pv (.fn f pre))
  | some kk => ∃ t cells, bx = some (t, cells) ∧ ev s g = some (.fn f (pre.map .pv ++ (.lp kk 0 :: post.map .pv))) ∧ look kk s.hp = some (.box t (cells.map .pv))

/-- **The statement `for x := range g { .. }`.** -/
theorem aw_rangeFunc {s : St} {kt psl : List Nat} {g : Operand} {ps : Array Tmp} {asg body : Code} {f m : Nat} {pre post : List PV} {bx : Option (TypeId × List PV)} {Qp : Exit → Act → World → Prop} (kk : Option Nat) (e : X → List PV) (rows : List X) (B : X → Q → Option (Ctl E Q)) (q0 : Q) (lr : Ctl E Q) (hL : runs B rows q0 = some lr)
    (S : Q → St) (SE : E → Exit × St) (hg : GOk s g f pre bx post kk) (hB : callB P f = true) (hit : ∀ sp, It P f m pre bx post (rows.map e) sp) (_hem : ∀ x, (e x).length = m)
    (hpsl : ps = psl.toArray) (hm : psl.length = m) (hnd : psl.Nodup) (hkp : (psl.all fun t => !kt.elem t && Nat.blt t s.n) = true) (SA : X → Q → St) (hS : ∀ q, LpSt s kt (S q)) (hSE : ∀ e, LpSt s kt (SE e).2) (hjm : ∀ e, (jumpOf (SE e).1).isSome = true)
    (hys : (S q0).ys = s.ys) (hnx : (S q0).next = s.next) (hF : LessF s.fr (S q0).fr) (hH : LessH s.hp (S q0).next kk (S q0).hp)
    (hasg : ∀ l c' x q, CxR c c' → AW (some l) P c' asg (Cut1 c' (SA x q)) ((S q).round psl (e x) kt))
    (hbody : ∀ l c' x q r, CxR c c' → B x q = some r → AW (some l) P c' body (RndPost c' S SE kt r) (SA x q))
    (hN : ∀ q, lr = .next q → Post c Qp .normal (S q)) (hE : ∀ e, lr = .stop e → Post c Qp (SE e).1 (SE e).2) : AW none P c (.rangeFunc g ps asg body) Qp s := by
  rintro a0 w ⟨O, θ, hs⟩
  obtain ⟨sp, tr, t0, t1, t2⟩ := runs_trace B rows q0 lr hL
  refine wpIn_rangeFunc ?_
  intro fn _
  -- the closure
  have hclo : ∃ us : Array Value, a0.eval g = .func (.func f) #[] us ∧ ∃ I0 : Nat → Prop, (∀ g, I0 g → O g ∧ g < w.heap.size ∧ ¬ c.X g) ∧ ItArgs w O I0 pre bx post us ∧ ∀ g, I0 g → ∃ k b v, kk = some k ∧ look k s.hp = some b ∧ θ k = some v ∧ blkOf v = some g := by
    cases kk with
    | none =>
      obtain ⟨rfl, hv⟩ := hg
      have := ev_pv hs hv
      generalize a0.eval g = v at this
      cases this with
      | fn _ _ us hn hh => exact ⟨us, rfl, fun _ => False, fun _ h => h.elim, ⟨hn, hh⟩, fun _ h => h.elim⟩
    | some k =>
      obtain ⟨t, cells, rfl, hv, hk⟩ := hg
      have := ev_ok hs hv
      generalize a0.eval g = v at this
      cases this with
      | fn _ _ us hn hh =>
        obtain ⟨v', hv', hb, hgv⟩ := hs.hp k _ hk
        obtain ⟨gb, us', rfl, b1, b2, b3⟩ := hb
        obtain ⟨g1, g2, g3, g4⟩ := hgv gb rfl
        have hlen : us.size = pre.length + 1 + post.length := by rw [hn]; simp; omega
        have hu : us[pre.length]? = some us[pre.length] := by simp
        have hmid := hh pre.length (.lp k 0) _ (by simp) hu
        generalize us[pre.length] = up at hmid hu
        cases hmid with
        | lp _ _ g' hmid =>
          rw [hv'] at hmid; cases hmid
          refine ⟨us, rfl, fun g => g = gb, fun g hg => hg ▸ ⟨g1, g2, g4⟩, ⟨hlen, fun i p u hp hu => ?_, fun i p u hp hu => ?_, gb, hu, ⟨gb, us', rfl, b1, b2, fun j x u hx hu => ?_⟩, g1, rfl⟩, fun g hg => ⟨k, _, _, rfl, hk, hv', by rw [hg]; rfl⟩⟩
          · have hi : i < pre.length := (List.getElem?_eq_some_iff.1 hp).1
            exact rda_pv (hh i (.pv p) u (by rw [List.getElem?_append_left (by simpa using hi), List.getElem?_map, hp]; rfl) hu)
          · refine rda_pv (hh _ (.pv p) u ?_ hu)
            rw [List.getElem?_append_right (by simp; omega)]
            simp only [List.length_map]
            rw [show pre.length + 1 + i - pre.length = i + 1 by omega, List.getElem?_cons_succ, List.getElem?_map, hp]; rfl
          · have := b3 j x u hx hu
            simp only [List.getElem?_map, Option.map_eq_some_iff] at hx
            obtain ⟨q, hq, rfl⟩ := hx
            exact ⟨.pv _ _ (rda_pv this.1), this.2⟩
  obtain ⟨us, hga, I0, hI0, hargs, hI0k⟩ := hclo
  obtain ⟨rec, hrec⟩ : ∃ rec : LoopState → Option Code → Loop, rec = mkRec fn a0.tmps ps asg body w.heap.size := ⟨_, rfl⟩
  obtain ⟨W1, hW1⟩ : ∃ W1, (w.alloc (.deferred (some []))).alloc (.loop (rec .ready none)) = W1 := ⟨_, rfl⟩
  have hsz1 : W1.heap.size = w.heap.size + 2 := by rw [← hW1]; simp
  have hL1 : W1.heap[w.heap.size + 1]? = some (.loop (rec .ready none)) := by
    rw [← hW1]; have := World.alloc_heap_new (w.alloc (.deferred (some []))) (.loop (rec .ready none)); rwa [World.size_alloc] at this
  have hK1 : W1.heap[w.heap.size]? = some (.deferred (some [])) := by
    rw [← hW1]; exact (Below.heap_alloc _ _ _ (by simp)).trans (World.alloc_heap_new w _)
  have hold : ∀ b, b < w.heap.size → W1.heap[b]? = w.heap[b]? := by
    intro b hb
    rw [← hW1]
    exact (Below.heap_alloc _ _ _ (by simp; omega)).trans (Below.heap_alloc _ _ _ (by omega))
  have hW1os : W1.os = w.os ∧ W1.tape = w.tape ∧ W1.output = w.output := by rw [← hW1]; exact ⟨rfl, rfl, rfl⟩
  refine ⟨w.heap.size + 1, [{ target := .collected w.heap.size, args := #[] }], W1, { target := .fn (.func f) us, args := #[.func (.yield (w.heap.size + 1)) #[] #[]] }, W1, f,
    #[.func (.yield (w.heap.size + 1)) #[] #[]] ++ us, W1, ?_, ?_, ?_, ?_, fun h => by simp [FF, Fence.wide] at h, ?_⟩
  · rw [← hW1, hrec]; exact run_enterLoop_outer _ _ _ _ _
  · simp only [resolve, hga]
    simp [go_sem]
  · intro f' _; trivial
  · simp [invoke, go_sem, callB_spec hB]
  let a1 : Act := { a0 with defers := [{ target := .collected w.heap.size, args := #[] }] ++ a0.defers }
  let O1 : Nat → Prop := fun g => O g ∨ g = w.heap.size ∨ g = w.heap.size + 1
  have hO1 : ∀ b, b < w.heap.size → ¬ O b → ¬ O1 b ∧ W1.heap[b]? = w.heap[b]? := fun b hb hn => ⟨fun h => by
    rcases h with h | h | h
    · exact hn h
    · omega
    · omega, hold b hb⟩
  have hle : w.heap.size ≤ W1.heap.size := by omega
  have hltO1 : ∀ g, O1 g → g < W1.heap.size := fun g hg => by
    rcases hg with h | h | h
    · have := hs.olt g h; omega
    · omega
    · omega
  have hlook : ∀ id b, look id (S q0).hp = some b → look id s.hp = some b ∧ id < (S q0).next ∧ kk ≠ some id := fun id b hb => hH.spec id b (look_mem hb)
  -- the values of the frame speak of names that are left
  have hj0 : c.J s.ys O1 (fun g => Mine c s θ a1.defers g ∨ g = w.heap.size + 1) W1 := by
    refine c.Jst hs.jn ⟨hW1os.1, hW1os.2.1, hW1os.2.2, hle, fun b hb _ => hold b hb, fun g hg => ?_, fun g h _ => .inl h, hltO1, fun g hg => ?_⟩
    · rcases hg with h | h | h
      · exact .inl h
      · exact .inr (by omega)
      · exact .inr (by omega)
    · rcases hg with (h | h | ⟨d, h, h2⟩) | h
      · exact .inl (.inl h)
      · exact .inl (.inr (.inl h))
      · rcases List.mem_cons.1 h with h3 | h3
        · subst h3; cases h2; exact .inr (Nat.le_refl _)
        · exact .inl (.inr (.inr ⟨d, h3, h2⟩))
      · exact .inr (by omega)
  have hI0m : ∀ g, I0 g → Mine c s θ a1.defers g := fun g hg => by
    obtain ⟨k, b, v, _, h2, h3, h4⟩ := hI0k g hg
    exact .inr (.inl ⟨k, b, v, h2, h3, h4⟩)
  have hst0 : RSt c (S q0) O1 I0 θ a1 W1 (w.heap.size + 1) (rec .ready none) := by
    have hj2 : c.J (S q0).ys O1 (fun g => Mine c (S q0) θ a1.defers g ∨ I0 g ∨ g = w.heap.size + 1) W1 := by
      rw [hys]
      refine c.Jst hj0 ⟨rfl, rfl, rfl, Nat.le_refl _, fun _ _ _ => rfl, fun g h => .inl h, fun g h _ => h, hltO1, fun g hg => .inl ?_⟩
      rcases hg with (h | ⟨id, b, v, h1, h2, h3⟩ | h) | h | h
      · exact .inl (.inl h)
      · exact .inl (.inr (.inl ⟨id, b, v, (hlook id b h1).1, h2, h3⟩))
      · exact .inl (.inr (.inr h))
      · exact .inl (hI0m g h)
      · exact .inr h
    refine ⟨⟨hs.size.trans (hS q0).n.symm, ?_, fun t x hx => (hs.fr t x (hF.spec t x (look_mem hx))).mono hle hO1 (fun _ _ e => e), fun id b hb => ?_, fun i j bi bj vi vj g hi hj => hs.inj i j bi bj vi vj g (hlook i bi hi).1 (hlook j bj hj).1, fun id v hv => ⟨by rw [hnx]; exact (hs.dom id v hv).1, by rw [(hS q0).free]; simp⟩, fun k hk => by rw [(hS q0).free] at hk; simp at hk, hs.one, hltO1, ⟨hW1os.1.trans hs.ext.os, hW1os.2.1.trans hs.ext.tape, hW1os.2.2.trans hs.ext.output, Nat.le_trans hs.ext.size hle, fun b hb hL => ?_⟩, fun g hg => .inl (hs.xo g hg), hs.xlt, hs.llt, fun d hd => ?_, fun g hg hlt => ?_, ?_, ?_⟩, hj2, ?_, fun g hg => (hI0 g hg).2.2, .inr (.inr rfl), hL1, Nat.le_succ_of_le hs.ext.size⟩
    · refine List.nodup_cons.2 ⟨fun hm => ?_, hs.df⟩
      obtain ⟨D, he, hD, _⟩ := hs.marks _ hm
      cases he
      have := heap_lt hD; omega
    · obtain ⟨h1, _, h3⟩ := hlook id b hb
      obtain ⟨v, hv, hbo, hgv⟩ := hs.hp id b h1
      exact ⟨v, hv, hbo.mono hle hO1 (fun _ _ e => e) (fun g hgg => hold g (hgv g hgg).2.1), fun g hgg => ⟨.inl (hgv g hgg).1, Nat.lt_of_lt_of_le (hgv g hgg).2.1 hle, (hgv g hgg).2.2⟩⟩
    · rw [hold b (Nat.lt_of_lt_of_le hb hs.ext.size)]; exact hs.ext.block b hb hL
    · rcases List.mem_cons.1 hd with h | h
      · subst h; exact ⟨_, rfl, hK1, .inr (.inl rfl), hs.ext.size⟩
      · obtain ⟨D, rfl, hD, hOD, h0⟩ := hs.marks d h
        exact ⟨D, rfl, by rw [hold D (heap_lt hD)]; exact hD, .inl hOD, h0⟩
    · rcases hg with h | h | h
      · exact hs.oc g h hlt
      · have := hs.ext.size; omega
      · have := hs.ext.size; omega
    · intro t ht
      rw [(hS q0).kt] at ht
      exact hs.kp t ht
    · exact c.Jst hj2 ⟨rfl, rfl, rfl, Nat.le_refl _, fun _ _ _ => rfl, fun g h => .inl h, fun g h _ => h, hltO1, fun g hg => .inl (.inl hg)⟩
    · intro g hg hI
      obtain ⟨k, b, v, h1, h2, h3, h4⟩ := hI0k g hI
      have hglt := (hI0 g hI).2.1
      rcases hg with ⟨id, b', v', q1, q2, q3⟩ | ⟨d, hd, hd2⟩ | rfl
      · obtain ⟨r1, _, r3⟩ := hlook id b' q1
        have := hs.inj id k b' b v' v g r1 h2 q2 h3 q3 h4
        subst this
        exact r3 h1
      · obtain ⟨v2, hv2, hbo, _⟩ := hs.hp k b h2
        rw [h3] at hv2; cases hv2
        obtain ⟨_, hcl, hmb⟩ := hbo.cells h4
        rcases List.mem_cons.1 hd with h | h
        · subst h; cases hd2; omega
        · obtain ⟨D, rfl, hD, _⟩ := hs.marks d h
          cases hd2; rw [hD] at hcl; cases hcl; cases hmb
      · omega
  have hJst : ∀ {k : Nat} {O I : Nat → Prop} {w' : World} {O' I' : Nat → Prop} {w'' : World}, RTr c S SE a1 (w.heap.size + 1) rec (tr k) O I w' → Stp O I w' O' I' w'' → RTr c S SE a1 (w.heap.size + 1) rec (tr k) O' I' w'' := by
    intro k O2 I2 w2 O3 I3 w3 h hstp
    generalize tr k = r at h ⊢
    cases r with
    | next q => obtain ⟨θ, h⟩ := h; exact ⟨θ, h.stp hstp⟩
    | stop e => obtain ⟨θ, h⟩ := h; exact ⟨θ, h.stp hstp⟩
  subst hrec
  have hcall := hit sp (w.heap.size + 1) (fun k O I W => k ≤ min (sp + 1) rows.length ∧ RTr c S SE a1 (w.heap.size + 1) (mkRec fn a0.tmps ps asg body w.heap.size) (tr k) O I W) (fun h hstp => ⟨h.1, hJst h.2 hstp⟩) W1 O1 I0 us hltO1 (fun g hg => .inl (hI0 g hg).1) ?_ ?_ ⟨Nat.zero_le _, by rw [t0]; exact ⟨θ, hst0⟩⟩
  · refine CallsIn.mono (callsIn_wide (n := 0 - 1).2 hcall) ?_
    rintro e' w' ⟨v, O', I', rfl, -, hR⟩
    rw [List.length_map, t1] at hR
    cases lr with
    | next q =>
      obtain ⟨θ', hR⟩ := hR
      have hT := hR.turn { mkRec fn a0.tmps ps asg body w.heap.size .ready none with state := .exhausted }
      exact ⟨none, _, run_endLoop (P := P) hR.hl (by simp [mkRec]), hN q rfl a1 _ ⟨O', θ', hT.sim⟩⟩
    | stop ee =>
      obtain ⟨θ', hR⟩ := hR
      have hT := hR.turn { mkRec fn a0.tmps ps asg body w.heap.size .done (jumpOf (SE ee).1) with state := .exhausted }
      refine ⟨jumpOf (SE ee).1, _, run_endLoop (P := P) hR.hl (by simp [mkRec]), ?_⟩
      have hp := hE ee rfl a1 _ ⟨O', θ', hT.sim⟩
      have hj := hjm ee
      simp only [mkRec] at hp ⊢
      generalize (SE ee).1 = x at hp hj ⊢
      cases x with
      | ret => exact wpIn_ret hp
      | exit id => exact wpIn_exit hp
      | _ => simp [jumpOf] at hj
  · have rdm : ∀ {p : PV} {v : Value}, Rd w O p v → Rd W1 O1 p v := fun h => h.mono hle hO1
    cases bx with
    | none => exact ⟨hargs.1, fun i p v hp hv => rdm (hargs.2 i p v hp hv)⟩
    | some b =>
      obtain ⟨t, cells⟩ := b
      obtain ⟨h1, h2, h3, g, h4, h5, h6, h7⟩ := hargs
      exact ⟨h1, fun i p v hp hv => rdm (h2 i p v hp hv), fun i p v hp hv => rdm (h3 i p v hp hv), g, h4, h5.mono hle hO1 (fun _ _ h => by cases h) (fun g' hg' => hold g' (by cases hg'; exact (hI0 g h7).2.1)), .inl h6, h7⟩
  · rintro k row W O2 I2 us2 ⟨hk, hR⟩ hrow hksp hrl husz hrd hO2 hI2
    have hklt : k < min (sp + 1) rows.length := by
      have := (List.getElem?_eq_some_iff.1 hrow).1
      simp at this; omega
    obtain ⟨x, q, k1, k2, k3, k4, k5⟩ := t2 k hklt
    have : row = e x := by rw [List.getElem?_map, k1] at hrow; simpa using hrow.symm
    subst this
    rw [k2] at hR
    obtain ⟨θ2, hR⟩ := hR
    obtain ⟨fn2, tmps2, assign2, body2, r1, r2⟩ := round_ok (P := P) (s := s) (kt := kt) (psl := psl) (a0 := a0) (a1 := a1) (S := S) (SE := SE) (q := q) (r := tr (k + 1)) (row := e x) (D := w.heap.size) (fn := fn) (SA x q) hpsl hnd hkp hS hSE rfl hs.size (by rw [husz, hm]) hrd hI2 ⟨θ2, hR⟩ (fun c' hc' => hasg _ c' x q hc') (fun c' hc' => hbody _ c' x q _ hc' k3)
    refine ⟨fn2, tmps2, assign2, body2, r1, RoundIn.mono r2 ?_⟩
    rintro e' W' ⟨O', rfl, hT, hrel⟩
    refine ⟨O', ?_, ⟨hklt, hT⟩, hrel⟩
    cases hb : k == sp with
    | true => obtain ⟨ee, he⟩ := k4 hb; rw [he]; rfl
    | false => obtain ⟨q', hq⟩ := k5 hb; rw [hq]; rfl
end
end Go.Abs
namespace Go.Abs
section
variable {P : Program} {c c' : Cx} {s : St}
theorem ItCx.round {l m sp : Nat} {rows : List (List PV)} (h : ItCx P l m rows sp c) (hc : CxR c c') : ItCx P l m rows sp c' := ⟨by rw [hc.J]; exact h.y, hc.xk h.xk⟩
theorem post_rnd {Q E : Type} {S : Q → St} {SE : E → Exit × St} {kt : List Nat} {r : Ctl E Q} (q : Q) (hr : r = .next q) (hi : Imp c s ((S q).kept kt)) : Post c (RndPost c S SE kt r) .normal s := fun a w hs => ⟨q, hr, hi a w hs⟩
theorem post_rnd_exit {Q E : Type} {S : Q → St} {SE : E → Exit × St} {kt : List Nat} {r : Ctl E Q} {id : Nat} (e : E) (hr : r = .stop e) (he : (SE e).1 = .exit id) (hi : Imp c s ((SE e).2.kept kt)) : Post c (RndPost c S SE kt r) (.exit id) s := fun a w hs => ⟨e, hr, he, hi a w hs⟩
theorem post_rnd_ret {Q E : Type} {S : Q → St} {SE : E → Exit × St} {kt : List Nat} {r : Ctl E Q} (e : E) (hr : r = .stop e) (he : (SE e).1 = .ret) (hi : Imp c s ((SE e).2.kept kt)) : Post c (RndPost c S SE kt r) .ret s := fun a w hs => ⟨e, hr, he, hi a w hs⟩
theorem go_elim_next {R S R' Q : Type} {v : Q} {f : R' → Ctl (Option R) S} {g : Q → Ctl (Option R) S} {k : S → Option R} {x : R} (h : Ctl.go (Ctl.elim (.next v) f g) k = some x) : Ctl.go (g v) k = some x := h
theorem go_elim_stop {R S R' Q : Type} {v : R'} {f : R' → Ctl (Option R) S} {g : Q → Ctl (Option R) S} {k : S → Option R} {x : R} (h : Ctl.go (Ctl.elim (.stop v) f g) k = some x) : Ctl.go (f v) k = some x := h
/-- yield is called with `x`, as row number `k`, and the caller has not left yet. -/
noncomputable def yck {X : Type} (rows : List X) (sp k : Nat) (x : X) : Option Unit :=
  haveI := Classical.propDecidable (rows[k]? = some x ∧ k ≤ sp)
  if rows[k]? = some x ∧ k ≤ sp then some () else none
theorem yck_spec {X : Type} {rows : List X} {sp k : Nat} {x : X} {u : Unit} (h : yck rows sp k x = some u) : rows[k]? = some x ∧ k ≤ sp := by
  unfold yck at h
  split at h
  · assumption
  · cases h
theorem yck_row {X : Type} {rows : List X} {sp k : Nat} {x : X} {u : Unit} (e : X → List PV) (h : yck rows sp k x = some u) : (rows.map e)[k]? = some (e x) := by rw [List.getElem?_map, (yck_spec h).1]; rfl
theorem yck_ok {X : Type} {rows : List X} {sp k : Nat} {x : X} (h1 : rows[k]? = some x) (h2 : k ≤ sp) : yck rows sp k x = some () := by unfold yck; rw [if_pos ⟨h1, h2⟩]
theorem it_len {k sp : Nat} {X : Type} {e : X → List PV} {rows : List X} (h : some k = some (min (sp + 1) rows.length)) : k = min (sp + 1) (rows.map e).length := by rw [List.length_map]; exact Option.some.inj h
end
end Go.Abs
namespace Go.Abs
/-- Some of the captured boxes are handed on as what they read as. -/
def CapF (id : Nat) (ps : List PV) : List AV → List AV → Prop
  | [], [] => True
  | x :: xs, y :: ys => (x = y ∨ (x = .lp id 0 ∧ y = .pv (.vp ps))) ∧ CapF id ps xs ys
  | _, _ => False
theorem CapF.spec {id : Nat} {ps : List PV} : ∀ {xs ys : List AV}, CapF id ps xs ys → xs.length = ys.length ∧ ∀ (i : Nat) (x y : AV), xs[i]? = some x → ys[i]? = some y → x = y ∨ (x = .lp id 0 ∧ y = .pv (.vp ps))
  | [], [], _ => ⟨rfl, fun i x y h => by simp at h⟩
  | x :: xs, y :: ys, h => by
    obtain ⟨h1, h2⟩ := CapF.spec h.2
    refine ⟨by simp [h1], fun i x' y' hx hy => ?_⟩
    cases i with
    | zero => simp at hx hy; subst hx; subst hy; exact h.1
    | succ i => exact h2 i x' y' (by simpa using hx) (by simpa using hy)
  | [], _ :: _, h | _ :: _, [], h => by simp [CapF] at h
theorem imp_freeze_cap {c : Cx} {s : St} (t id : Nat) (caps' : List AV) {f T : Nat} {caps cells : List AV} {ps : List PV} (h : look t s.fr = some (.fn f caps)) (hb : look id s.hp = some (.box T cells)) (hps : pvs cells = some ps) (hone : ps.all PV.one = true) (hc : CapF id ps caps caps') :
    Imp c s { (s.freeze [(id, some (.box T cells))] []) with fr := (t, some (.fn f caps')) :: s.fr } := by
  rintro a w ⟨O, θ, hs⟩
  have hfz : ∀ x ∈ [(id, some (Blk.box T cells))], ∃ b, x.2 = some b ∧ look x.1 s.hp = some b := by
    intro x hx
    simp at hx; subst hx
    exact ⟨_, rfl, hb⟩
  have h' := hs.frozen [(id, some (.box T cells))] [] hfz trivial
  have hfz' : ∀ i b, look i [(id, some (Blk.box T cells))] = some b → look i s.hp = some b := by
    intro i b hl
    obtain ⟨b', h1, h2⟩ := hfz _ (look_mem hl)
    cases h1; exact h2
  refine ⟨_, θ, h'.size, h'.df, fun t' x hx => ?_, h'.hp, h'.inj, h'.dom, h'.flt, h'.one, h'.olt, h'.ext, h'.xo, h'.xlt, h'.llt, h'.marks, h'.oc, h'.kp, h'.jn⟩
  simp only [look_cons] at hx
  split at hx
  · rename_i e; subst e; cases hx
    have hr := hs.fr _ _ h
    generalize a.tmps.getD t undef = v at hr
    obtain ⟨k1, k2⟩ := hc.spec
    cases hr with
    | fn _ _ us hn hh =>
      refine .fn _ _ us (by rw [hn, k1]) fun i y u hy hu => ?_
      have hi : i < caps.length := by rw [k1]; exact (List.getElem?_eq_some_iff.1 hy).1
      have hx := hh i caps[i] u (List.getElem?_eq_getElem hi) hu
      rcases k2 i caps[i] y (List.getElem?_eq_getElem hi) hy with e | ⟨e1, e2⟩
      · rw [← e]
        exact hx.mono (Nat.le_refl _) (fun b _ hn => ⟨fun h => hn h.1, rfl⟩) (fun _ _ e => e)
      · rw [e1] at hx
        subst e2
        cases hx with
        | lp _ _ g hx =>
          have := view_lp (off := 0) hs hfz' (O2 := fun g => O g ∧ ∀ id' b u, look id' s.hp = some b → (id', some b) ∈ [(id, some (Blk.box T cells))] → θ id' = some u → blkOf u ≠ some g) (fun g h => h.1) (fun i b u g q1 q2 q3 q4 => q4.2 i b u (hfz' _ _ q1) (look_mem q1) q2 q3) hx (show look id [(id, some (Blk.box T cells))] = some (.box T cells) by simp [look]) hps hone
          exact .pv _ _ this
  · exact h'.fr t' x hx
end Go.Abs
namespace Go.Abs
theorem vsR {α : Type} {f : α → List PV} {g : List α → List (List PV)} {w : World} {O : Nat → Prop} {cs : List Value} {sz : Nat} {l : List α} (hm : ∀ l, g l = l.map f) (h : Reads1 w O cs (eL sz f l)) : Reads1 w O cs [.vs sz (g l)] := by rw [hm]; exact h
end Go.Abs
