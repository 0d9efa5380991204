/- The abstract layer that the proof stands on: no condition. -/
import Derived.Test.YtiefoagopfeibaaGreatPureRunsA2
import Derived.Lib.Bytealg
import Derived.Laws.Externs
import Derived.Maps.Own
import Derived.Maps.OwnSet
import Derived.Lib.ConvBytes
import Derived.Laws.BytesString
import Derived.Lib.Join
import Derived.Lib.AppendZeros
import Derived.Shelf.Strings.Builder1
/- A range over a function: one round; the statement. -/
namespace Go.Abs
variable {G : List (Nat × List PV)}
open Go.RowKit
theorem fold_set (ps : List Nat) : ∀ (us : List Value) (tm : Array Value), us.length = ps.length → ps.Nodup →
  ((ps.zip us).foldl (fun tm (t, u) => tm.setIfInBounds t u) tm).size = tm.size ∧ (∀ t, t ∉ ps → ((ps.zip us).foldl (fun tm (t, u) => tm.setIfInBounds t u) tm).getD t undef = tm.getD t undef) ∧
  ∀ (i t : Nat) (u : Value), ps[i]? = some t → us[i]? = some u → t < tm.size → ((ps.zip us).foldl (fun tm (t, u) => tm.setIfInBounds t u) tm).getD t undef = u := by
 induction ps with
 | nil => intro us tm _ _; exact ⟨rfl, fun _ _ => rfl, fun i t u h => by simp at h⟩
 | cons p ps ih =>
  intro us tm hl hnd
  cases us with
  | nil => simp at hl
  | cons u us =>
   simp only [List.zip_cons_cons, List.foldl_cons]
   obtain ⟨h1, h2, h3⟩ := ih us (tm.setIfInBounds p u) (by simpa using hl) (List.nodup_cons.1 hnd).2
   refine ⟨by rw [h1]; simp, fun t ht => ?_, fun i t v hi hv hlt => ?_⟩
   ·rw [h2 t (fun h => ht (List.mem_cons_of_mem _ h))]
    have hne : p ≠ t := fun e => ht (by simp [e])
    simp [Array.getElem?_setIfInBounds_ne hne]
   ·cases i with
    | zero =>
     simp at hi hv; subst hi; subst hv
     rw [h2 p (List.nodup_cons.1 hnd).1]
     simp [hlt]
    | succ i =>
     exact h3 i t v (by simpa using hi) (by simpa using hv) (by simpa using hlt)
theorem psFr_look : ∀ (ps : List Nat) (row : List PV) (t : Nat) (x : AV), look t (psFr ps row) = some x → ∃ (i : Nat) (p : PV), x = .pv p ∧ ps[i]? = some t ∧ row[i]? = some p
 | [], row, t, x, h => by simp [psFr, look] at h
 | _ :: _, [], t, x, h => by simp [psFr, look] at h
 | t' :: ps, p :: row, t, x, h => by
  simp only [psFr, look_cons] at h
  split at h
  ·rename_i e; subst e; cases h; exact ⟨0, p, rfl, rfl, rfl⟩
  ·obtain ⟨i, q, h1, h2, h3⟩ := psFr_look ps row t x h
   exact ⟨i + 1, q, h1, by simpa using h2, by simpa using h3⟩
theorem psFr_not {ps : List Nat} {row : List PV} {t : Nat} (h : ∀ (i t' : Nat), ps[i]? = some t' → i < row.length → t' ≠ t) (l : List (Nat × Option AV)) : look t (psFr ps row ++ l) = look t l := by
 induction ps generalizing row with
 | nil => rfl
 | cons p ps ih =>
  cases row with
  | nil => rfl
  | cons q row =>
   simp only [psFr, List.cons_append, look_cons]
   rw [if_neg (h 0 p rfl (by simp))]
   exact ih fun i t' hi hl => h (i + 1) t' (by simpa using hi) (by simpa using hl)
section
variable {X Q E : Type} {P : Program} {c : Cx G}
def jumpOf : Exit → Option Code
 | .ret => some .ret
 | .exit id => some (.exit id)
 | _ => none
def mkRec (fn : FuncId) (tmps : Array Value) (ps : Array Tmp) (asg body : Code) (D : Nat) (st : LoopState) (pe : Option Code) : Loop :=
 { state := st, pending := pe, fn, tmps, params := ps, assign := asg, body, defers := D }
def Cut1 (c : Cx G) (s1 : St) : Exit → Act → World → Prop
 | .normal, a, w => Sim c s1 a w
 | _, _, _ => False
theorem post_cut1 {c : Cx G} {s s1 : St} (hi : Imp c s s1) : Post c (Cut1 c s1) .normal s := fun a w hs => hi a w hs
def RTr (c : Cx G) (S : Q → St) (SE : E → Exit × St) (a1 : Act) (l : Nat) (rec : LoopState → Option Code → Loop) (r : Ctl E Q) (O I : Nat → Prop) (w : World) : Prop :=
 match r with
 | .next q => ∃ θ, RSt c (S q) O I θ a1 w l (rec .ready none)
 | .stop e => ∃ θ, RSt c (SE e).2 O I θ a1 w l (rec .done (jumpOf (SE e).1))
theorem SimAt.turned {c : Cx G} {s : St} {O : Nat → Prop} {θ : Nat → Option Value} {a : Act} {w : World} {l : Nat} {rec rec' : Loop} (hs : SimAt c s O θ a w) (hl : w.heap[l]? = some (.loop rec)) (hX : c.X l) (hK : c.K l) :
  SimAt { c with w0 := c.w0.putObj l (.loop rec') } s O θ a (w.putObj l (.loop rec')) := by
 have hol := hs.xo l hX
 have hlt := hs.xlt l hX
 have hO : ∀ b, b < w.heap.size → ¬ O b → ¬ O b ∧ (w.putObj l (.loop rec')).heap[b]? = w.heap[b]? := fun b hb hn => ⟨hn, World.putObj_heap_other (fun e => hn (e ▸ hol))⟩
 have hsz : w.heap.size ≤ (w.putObj l (.loop rec')).heap.size := by simp
 refine ⟨hs.size, hs.df, fun t x hx => (hs.fr t x hx).mono hsz hO (fun _ _ e => e), fun id b hb => ?_, hs.inj, hs.dom, hs.flt, hs.one, fun g hg => by simpa using hs.olt g hg, ⟨hs.ext.os, hs.ext.tape, hs.ext.output, by simpa using hs.ext.size, fun b hb hL => ?_⟩, hs.xo, fun g hg => by simpa using hs.xlt g hg, fun g hg => by simpa using hs.llt g hg, fun d hd => ?_, fun g hg hlt => hs.oc g hg (by simpa using hlt), hs.kp, ?_⟩
 ·obtain ⟨v, hv, hbo, hgv⟩ := hs.hp id b hb
  exact ⟨v, hv, hbo.mono hsz hO (fun _ _ e => e) (fun g hgg => World.putObj_heap_other (fun e => by obtain ⟨_, hh, ho⟩ := hbo.cells hgg; rw [e, hl] at hh; cases hh; cases ho)), fun g hgg => by simpa using hgv g hgg⟩
 ·by_cases hbl : b = l
  ·subst hbl
   rw [World.putObj_heap_same (heap_lt hl), World.putObj_heap_same hlt]
  ·rw [World.putObj_heap_other hbl, World.putObj_heap_other hbl]
   exact hs.ext.block b (by simpa using hb) hL
 ·obtain ⟨D, rfl, hD, hOD, h0⟩ := hs.marks d hd
  exact ⟨D, rfl, by rw [World.putObj_heap_other (fun e => by subst e; rw [hl] at hD; cases hD)]; exact hD, hOD, by simpa using h0⟩
 ·refine c.Jst hs.jn ⟨rfl, rfl, rfl, hsz, fun b hb hn => World.putObj_heap_other (fun e => ?_), fun g h => .inl h, fun g h _ => h, fun g hg => by simpa using hs.olt g hg, fun g hg => .inl hg⟩
  subst e
  rcases hn with hn | hn
  ·exact hn (.inl hK)
  ·exact hn hol
theorem round_ok {s : St} {kt psl : List Nat} {ps : Array Tmp} {asg body : Code} {fn : FuncId} {a0 a1 : Act} {D l : Nat} {S : Q → St} {SE : E → Exit × St} {q : Q} {r : Ctl E Q} {row : List PV} {W : World} {O I : Nat → Prop} {us : Array Value} (SA : St)
  (hpsl : ps = psl.toArray) (hnd : psl.Nodup) (hkp : (psl.all fun t => !kt.elem t && Nat.blt t s.n) = true)
  (hS : ∀ q, LpSt s kt (S q)) (hSE : ∀ e, LpSt s kt (SE e).2)
  (ha : a1.tmps = a0.tmps) (hsz : a0.tmps.size = s.n) (husz : us.size = psl.length)
  (hrd : ∀ (i : Nat) (p : PV) (u : Value), row[i]? = some p → us[i]? = some u → Rd W O p u) (hIO : ∀ g, I g → O g)
  (h : ∃ θ, RSt c (S q) O I θ a1 W l (mkRec fn a0.tmps ps asg body D .ready none))
  (hasg : ∀ c', CxR c c' → AW (some l) P c' asg (Cut1 c' SA) ((S q).round psl row kt))
  (hbody : ∀ c', CxR c c' → AW (some l) P c' body (RndPost c' S SE kt r) SA) :
  ∃ fn' tmps assign body', (Instr.yield l us).run P W = .ok (.round l fn' tmps assign body') W ∧
   RoundIn (FF none) 0 P l fn' tmps assign body' W fun e W' => ∃ O', e = .returned (.bool (match r with | .next _ => true | .stop _ => false)) ∧ RTr c S SE a1 l (mkRec fn a0.tmps ps asg body D) r O' I W' ∧ Rel O I W O' W' := by
 subst hpsl
 obtain ⟨θ, h⟩ := h
 have hy := run_yield (P := P) (args := us) h.hl (by simp [mkRec, husz])
 have hfold : (psl.toArray.zip us).foldl (fun tm (t, u) => tm.setIfInBounds t u) a0.tmps = (psl.zip us.toList).foldl (fun tm (t, u) => tm.setIfInBounds t u) a0.tmps := by
  rw [← Array.foldl_toList]
  simp [Array.toList_zip]
 have hul : us.toList.length = psl.length := by simpa using husz
 obtain ⟨f1, f2, f3⟩ := fold_set psl us.toList a0.tmps hul hnd
 rw [← hfold] at f1 f2 f3
 refine ⟨fn, _, asg, body, hy, roundIn_of_wpIn trivial ?_⟩
 simp only [mkRec]
 generalize (psl.toArray.zip us).foldl (fun tm (t, u) => tm.setIfInBounds t u) a0.tmps = tm at f1 f2 f3 ⊢
 have h2 := h.turn { (mkRec fn a0.tmps psl.toArray asg body D .ready none) with state := .busy }
 have hWs : (W.putObj l (.loop { (mkRec fn a0.tmps psl.toArray asg body D .ready none) with state := .busy })).heap.size = W.heap.size := by simp
 have hWb : ∀ b, b ≠ l → (W.putObj l (.loop { (mkRec fn a0.tmps psl.toArray asg body D .ready none) with state := .busy })).heap[b]? = W.heap[b]? := fun b hb => World.putObj_heap_other hb
 have hWos : (W.putObj l (.loop { (mkRec fn a0.tmps psl.toArray asg body D .ready none) with state := .busy })).os = W.os ∧ (W.putObj l (.loop { (mkRec fn a0.tmps psl.toArray asg body D .ready none) with state := .busy })).tape = W.tape ∧ (W.putObj l (.loop { (mkRec fn a0.tmps psl.toArray asg body D .ready none) with state := .busy })).output = W.output := ⟨rfl, rfl, rfl⟩
 generalize hW2 : W.putObj l (.loop { (mkRec fn a0.tmps psl.toArray asg body D .ready none) with state := .busy }) = W2 at *
 have hs := h2.sim
 let c' : Cx G := { w0 := W2, L := fun g => O g ∧ ¬ (c.X g ∨ I g ∨ DfB a1.defers g ∨ g = l), X := fun g => c.X g ∨ I g ∨ DfB a1.defers g ∨ g = l, K := fun g => c.K g ∨ I g ∨ DfB a1.defers g ∨ g = l, J := c.J, Jst := c.Jst, JG := c.JG, KX := fun g hg => hg.elim (fun h => .inl (c.KX g h)) (fun h => .inr h), t0 := a0.tmps }
 have hXO : ∀ g, c'.X g → O g := by
  intro g hg
  rcases hg with hg | hg | hg | hg
  ·exact hs.xo g hg
  ·exact hIO g hg
  ·exact (h2.hp_lt (.inr (.inl hg))).2
  ·exact (h2.hp_lt (.inr (.inr hg))).2
 have hpsk : ∀ (i t : Nat), psl[i]? = some t → t ∉ kt ∧ t < s.n := by
  intro i t hi
  have := List.all_eq_true.1 hkp t (List.mem_of_getElem? hi)
  simpa [Nat.blt_eq] using this
 have hcells : ∀ g, HpB (S q) θ g → ¬ c'.X g := by
  rintro g ⟨id, b, v, q1, q2, q3⟩ hX
  obtain ⟨v', hv', hbo, hgv⟩ := hs.hp id b q1
  rw [q2] at hv'; cases hv'
  obtain ⟨_, hcl, hmb⟩ := hbo.cells q3
  rcases hX with hX | hX | ⟨d, hd, hd2⟩ | hX
  ·exact (hgv g q3).2.2.2 hX
  ·exact h2.apart g (.inl ⟨id, b, v, q1, q2, q3⟩) hX
  ·obtain ⟨D', rfl, hD', _⟩ := hs.marks d hd
   cases hd2; rw [hD'] at hcl; cases hcl; cases hmb
  ·subst hX; rw [h2.hl] at hcl; cases hcl; cases hmb
 let c1 : Cx G := { c' with w0 := W }
 have hXlt : ∀ g, c'.X g → g < W.heap.size := fun g hg => by rw [← hWs]; exact hs.olt g (hXO g hg)
 have hstart : Sim c1 ((S q).round psl row kt) { tmps := tm, defers := [] } W := by
  refine ⟨O, θ, by show tm.size = (S q).n; rw [f1, hsz, (hS q).n], .nil, fun t x hx => ?_, fun id b hb => ?_, h.sim.inj, h.sim.dom, h.sim.flt, h.sim.one, h.sim.olt, ⟨rfl, rfl, rfl, Nat.le_refl _, fun _ _ _ => rfl⟩, hXO, fun g hg => h.sim.olt g (hXO g hg), fun g hg => h.sim.olt g hg.1, fun d hd => (by cases hd), fun g hg _ => ?_, fun t ht => ?_, ?_⟩
  ·by_cases hps : ∃ i : Nat, psl[i]? = some t
   ·obtain ⟨i, hi⟩ := hps
    have hx' : look t (psFr psl row ++ (S q).fr) = some x := hx
    rcases look_append_or _ _ _ _ hx' with hx2 | hx2
    ·obtain ⟨j, p, rfl, hj, hp⟩ := psFr_look _ _ _ _ hx2
     have hju : j < us.toList.length := by rw [hul]; exact (List.getElem?_eq_some_iff.1 hj).1
     have hu : us.toList[j]? = some us.toList[j] := List.getElem?_eq_getElem hju
     show RdA W O θ (.pv p) (tm.getD t undef)
     rw [f3 j t us.toList[j] hj hu (by rw [hsz]; exact (hpsk j t hj).2)]
     exact .pv _ _ (hrd j p _ hp (by simp))
    ·exact absurd (inKt_spec (hS q).fr t x hx2) (hpsk i t hi).1
   ·have hx' : look t (psFr psl row ++ (S q).fr) = some x := hx
    rw [psFr_not (ps := psl) (row := row) (t := t) (fun i t' hi _ e => hps ⟨i, by rw [← e]; exact hi⟩)] at hx'
    show RdA W O θ x (tm.getD t undef)
    rw [f2 t (fun hm => hps (by obtain ⟨i, hi⟩ := List.getElem?_of_mem hm; exact ⟨i, hi⟩)), ← ha]
    exact h.sim.fr t x hx'
  ·obtain ⟨v, hv, hbo, hgv⟩ := h.sim.hp id b hb
   refine ⟨v, hv, hbo, fun g hgg => ?_⟩
   have hX := hcells g ⟨id, b, v, hb, hv, hgg⟩
   exact ⟨(hgv g hgg).1, (hgv g hgg).2.1, fun hL => absurd ⟨(hgv g hgg).1, hX⟩ hL, hX⟩
  ·by_cases hX : c'.X g
   ·exact .inl hX
   ·exact .inr ⟨hg, hX⟩
  ·have : t ∉ psl := fun hm => by obtain ⟨i, hi⟩ := List.getElem?_of_mem hm; exact (hpsk i t hi).1 ht
   exact f2 t this
  ·refine c.Jst h.jn ⟨rfl, rfl, rfl, Nat.le_refl _, fun _ _ _ => rfl, fun g h => .inl h, fun g h _ => h, h.sim.olt, fun g hg => .inl ?_⟩
   rcases hg with (hg | hg | hg | hg) | hg | ⟨d, hd, _⟩
   ·exact .inl (.inl hg)
   ·exact .inr (.inl hg)
   ·exact .inl (.inr (.inr hg))
   ·exact .inr (.inr hg)
   ·exact .inl (.inr (.inl hg))
   ·cases hd
 have hcx : CxR c c' := ⟨rfl, fun hxk g hg => by
  rcases hg with hg | hg
  ·exact .inl (hxk g hg)
  ·exact .inr hg⟩
 -- behind the body
 have after : ∀ (s2 : St) (a2 : Act) (W3 : World), s2 = s2 → LpSt s kt s2 → Sim c' (s2.kept kt) a2 W3 → ∃ O' θ', Rel O I W O' W3 ∧ RSt c s2 O' I θ' a1 W3 l { (mkRec fn a0.tmps psl.toArray asg body D .ready none) with state := .busy } := by
  rintro s2 a2 W3 - hs2 ⟨O', θ', h3⟩
  have hsz3 : W2.heap.size ≤ W3.heap.size := h3.ext.size
  have hLX : ∀ g, c'.L g → O g ∧ ¬ c'.X g := fun g hg => hg
  have hXs : ∀ g, c'.X g → W3.heap[g]? = W2.heap[g]? ∧ O' g := fun g hg => ⟨h3.ext.block g (hs.olt g (hXO g hg)) (fun hL => (hLX g hL).2 hg), h3.xo g hg⟩
  have hO'O : ∀ g, O' g → g < W2.heap.size → O g := fun g hg hlt => by
   rcases h3.oc g hg hlt with hX | hL
   ·exact hXO g hX
   ·exact hL.1
  refine ⟨O', θ', ⟨h3.ext.os.trans hWos.1, h3.ext.tape.trans hWos.2.1, h3.ext.output.trans hWos.2.2, by rw [← hWs]; exact hsz3, fun b hb hn => ?_, fun g hg => ?_, fun g _ hI => (hXs g (.inr (.inl hI))).2, h3.olt⟩, ?_⟩
  ·have hb2 : W3.heap[b]? = W2.heap[b]? := h3.ext.block b (by rw [hWs]; exact hb) (fun hL => by
    rcases hn with hn | hn
    ·exact hn (hLX b hL).1
    ·exact (hLX b hL).2 (.inr (.inl hn)))
   rw [hb2]
   refine hWb b (fun e => ?_)
   subst e
   rcases hn with hn | hn
   ·exact hn h.ol
   ·exact h.apart b (.inr (.inr rfl)) hn
  ·rcases Nat.lt_or_ge g W2.heap.size with hlt | hge
   ·exact .inl (hO'O g hg hlt)
   ·exact .inr (by rw [← hWs]; exact hge)
  ·have hj2 : c.J s2.ys O' (fun g => Mine c s2 θ' a1.defers g ∨ I g ∨ g = l) W3 := by
    refine c.Jst h3.jn ⟨rfl, rfl, rfl, Nat.le_refl _, fun _ _ _ => rfl, fun g h => .inl h, fun g h _ => h, h3.olt, fun g hg => .inl ?_⟩
    rcases hg with (hg | hg | hg) | hg | hg
    ·exact .inl (.inl hg)
    ·exact .inr (.inl hg)
    ·exact .inl (.inr (.inr (.inl hg)))
    ·exact .inl (.inr (.inl hg))
    ·exact .inl (.inr (.inr (.inr hg)))
   have hhpX : ∀ g, HpB s2 θ' g → ¬ c'.X g ∧ (¬ c.L g → c.w0.heap.size ≤ g) ∧ O' g := by
    rintro g ⟨id, b, v, q1, q2, q3⟩
    obtain ⟨v', hv', hbo, hgv⟩ := h3.hp id b q1
    rw [q2] at hv'; cases hv'
    obtain ⟨g1, g2, g3, g4⟩ := hgv g q3
    refine ⟨g4, fun hcL => ?_, g1⟩
    rcases Nat.lt_or_ge g c.w0.heap.size with hlt | hge
    ·exfalso
     have hlt2 : g < W2.heap.size := Nat.lt_of_lt_of_le hlt hs.ext.size
     rcases hs.oc g (hO'O g g1 hlt2) hlt with hX | hL
     ·exact g4 (.inl hX)
     ·exact hcL hL
    ·exact hge
   refine ⟨⟨by rw [ha, hsz, hs2.n], hs.df, fun t x hx => ?_, fun id b hb => ?_, h3.inj, h3.dom, h3.flt, h3.one, h3.olt, ⟨h3.ext.os.trans hs.ext.os, h3.ext.tape.trans hs.ext.tape, h3.ext.output.trans hs.ext.output, Nat.le_trans hs.ext.size hsz3, fun b hb hL => ?_⟩, fun g hg => (hXs g (.inl hg)).2, hs.xlt, hs.llt, fun d hd => ?_, fun g hg hlt => hs.oc g (hO'O g hg (Nat.lt_of_lt_of_le hlt hs.ext.size)) hlt, ?_, ?_⟩, hj2, ?_, h2.ix, (hXs l (.inr (.inr (.inr rfl)))).2, ?_, h2.lw⟩
   ·have hk := h3.kp t (inKt_spec hs2.fr t x hx)
    have : a2.tmps.getD t undef = a0.tmps.getD t undef := hk
    rw [ha, ← this]
    exact h3.fr t x hx
   ·obtain ⟨v, hv, hbo, hgv⟩ := h3.hp id b hb
    refine ⟨v, hv, hbo, fun g hgg => ?_⟩
    obtain ⟨q1, q2, q3⟩ := hhpX g ⟨id, b, v, hb, hv, hgg⟩
    exact ⟨q3, (hgv g hgg).2.1, q2, fun hX => q1 (.inl hX)⟩
   ·rw [← hs.ext.block b hb hL]
    refine h3.ext.block b (Nat.lt_of_lt_of_le hb hs.ext.size) (fun hL2 => ?_)
    rcases hs.oc b (hLX b hL2).1 hb with hX | hL3
    ·exact (hLX b hL2).2 (.inl hX)
    ·exact hL hL3
   ·obtain ⟨D', rfl, hD', hOD', h0⟩ := hs.marks d hd
    have hX : c'.X D' := .inr (.inr (.inl ⟨_, hd, rfl⟩))
    exact ⟨D', rfl, by rw [(hXs D' hX).1]; exact hD', (hXs D' hX).2, h0⟩
   ·intro t ht
    rw [hs2.kt] at ht
    exact hs.kp t (by rw [(hS q).kt]; exact ht)
   ·exact c.Jst hj2 ⟨rfl, rfl, rfl, Nat.le_refl _, fun _ _ _ => rfl, fun g h => .inl h, fun g h _ => h, h3.olt, fun g hg => .inl (.inl hg)⟩
   ·intro g hg hI
    rcases hg with hg | hg | hg
    ·exact (hhpX g hg).1 (.inr (.inl hI))
    ·exact h2.apart g (.inr (.inl hg)) hI
    ·exact h2.apart g (.inr (.inr hg)) hI
   ·rw [(hXs l (.inr (.inr (.inr rfl)))).1]; exact h2.hl
 have fin : ∀ (s2 : St) (a2 : Act) (W3 : World) (jump : Option Code), LpSt s kt s2 → Sim c' (s2.kept kt) a2 W3 → ∃ O', (Instr.endRound l jump).run P W3 = .ok (.bool jump.isNone) (W3.putObj l (.loop (mkRec fn a0.tmps psl.toArray asg body D (if jump.isNone then .ready else .done) jump))) ∧
   Rel O I W O' (W3.putObj l (.loop (mkRec fn a0.tmps psl.toArray asg body D (if jump.isNone then .ready else .done) jump))) ∧ ∃ θ', RSt c s2 O' I θ' a1 (W3.putObj l (.loop (mkRec fn a0.tmps psl.toArray asg body D (if jump.isNone then .ready else .done) jump))) l (mkRec fn a0.tmps psl.toArray asg body D (if jump.isNone then .ready else .done) jump) := by
  intro s2 a2 W3 jump hs2 h3
  obtain ⟨O', θ', hrel, hst⟩ := after s2 a2 W3 rfl hs2 h3
  refine ⟨O', run_endRound jump hst.hl, ⟨hrel.os, hrel.tape, hrel.output, by simpa using hrel.size, fun b hb hn => ?_, hrel.o1, hrel.o2, fun g hg => by simpa using hrel.olt g hg⟩, θ', hst.turn _⟩
  rw [World.putObj_heap_other (fun e => ?_)]
  ·exact hrel.block b hb hn
  ·subst e
   rcases hn with hn | hn
   ·exact hn h.ol
   ·exact h.apart b (.inr (.inr rfl)) hn
 have hcx1 : CxR c c1 := ⟨rfl, hcx.xk⟩
 refine wpIn_mono (hasg c1 hcx1 _ _ hstart) ?_
 rintro e aA WA hA
 cases e with
 | exit id => exact hA.elim
 | ret => exact hA.elim
 | goto t => exact hA.elim
 | panic ch => exact hA.elim
 | outgrown => exact hA.elim
 | normal =>
 obtain ⟨OA, θA, hsA⟩ := hA
 have hXl : c1.X l := .inr (.inr (.inr rfl))
 have hlA : WA.heap[l]? = some (.loop (mkRec fn a0.tmps psl.toArray asg body D .ready none)) := by
  rw [hsA.ext.block l (heap_lt h.hl) (fun hL => hL.2 hXl)]; exact h.hl
 refine ⟨_, run_beginRound hlA rfl, ?_⟩
 have hsB := hsA.turned (rec' := { (mkRec fn a0.tmps psl.toArray asg body D .ready none) with state := .busy }) hlA hXl (.inr (.inr (.inr rfl)))
 have hc'' : ({ c1 with w0 := c1.w0.putObj l (.loop { (mkRec fn a0.tmps psl.toArray asg body D .ready none) with state := .busy }) } : Cx G) = c' := by
  show ({ c' with w0 := W.putObj l (.loop { (mkRec fn a0.tmps psl.toArray asg body D .ready none) with state := .busy }) } : Cx G) = c'
  rw [hW2]
 rw [hc''] at hsB
 refine wpIn_mono (hbody c' hcx _ _ ⟨OA, θA, hsB⟩) ?_
 rintro e a2 W3 hp
 cases e with
 | normal =>
  obtain ⟨q', rfl, hs3⟩ := hp
  obtain ⟨O', k1, k2, k3⟩ := fin _ a2 W3 none (hS q') hs3
  exact ⟨_, _, k1, O', rfl, k3, k2⟩
 | ret =>
  obtain ⟨e', rfl, he, hs3⟩ := hp
  obtain ⟨O', k1, k2, k3⟩ := fin _ a2 W3 (some .ret) (hSE e') hs3
  exact ⟨_, _, k1, O', rfl, by simpa [RTr, he, jumpOf] using k3, k2⟩
 | exit id =>
  obtain ⟨e', rfl, he, hs3⟩ := hp
  obtain ⟨O', k1, k2, k3⟩ := fin _ a2 W3 (some (.exit id)) (hSE e') hs3
  exact ⟨_, _, k1, O', rfl, by simpa [RTr, he, jumpOf] using k3, k2⟩
 | goto t => exact hp.elim
 | panic ch => exact hp.elim
 | outgrown => exact hp.elim
def GOk (s : St) (g : Operand) (f : Nat) (pre : List PV) (bx : Option (TypeId × List PV)) (post : List PV) : Option Nat → Prop
 | none => bx = none ∧ ev s g = some (.pv (.fn f pre))
 | some kk => ∃ t cells, bx = some (t, cells) ∧ ev s g = some (.fn f (pre.map .pv ++ (.lp kk 0 :: post.map .pv))) ∧ look kk s.hp = some (.box t (cells.map .pv))
theorem aw_rangeFunc {s : St} {kt psl : List Nat} {g : Operand} {ps : Array Tmp} {asg body : Code} {f m : Nat} {pre post : List PV} {bx : Option (TypeId × List PV)} {Qp : Exit → Act → World → Prop} (kk : Option Nat) (e : X → List PV) (rows : List X) (B : X → Q → Option (Ctl E Q)) (q0 : Q) (lr : Ctl E Q) (hL : runs B rows q0 = some lr)
  (S : Q → St) (SE : E → Exit × St) (hg : GOk s g f pre bx post kk) (hB : callB P f = true) (hit : ∀ sp, It G P f m pre bx post (rows.map e) sp) (_hem : ∀ x, (e x).length = m)
  (hpsl : ps = psl.toArray) (hm : psl.length = m) (hnd : psl.Nodup) (hkp : (psl.all fun t => !kt.elem t && Nat.blt t s.n) = true) (SA : X → Q → St) (hS : ∀ q, LpSt s kt (S q)) (hSE : ∀ e, LpSt s kt (SE e).2) (hjm : ∀ e, (jumpOf (SE e).1).isSome = true)
  (hys : (S q0).ys = s.ys) (hnx : (S q0).next = s.next) (hF : LessF s.fr (S q0).fr) (hH : LessH s.hp (S q0).next kk (S q0).hp)
  (hasg : ∀ l c' x q, CxR c c' → AW (some l) P c' asg (Cut1 c' (SA x q)) ((S q).round psl (e x) kt))
  (hbody : ∀ l c' x q r, CxR c c' → B x q = some r → AW (some l) P c' body (RndPost c' S SE kt r) (SA x q))
  (hN : ∀ q, lr = .next q → Post c Qp .normal (S q)) (hE : ∀ e, lr = .stop e → Post c Qp (SE e).1 (SE e).2) : AW none P c (.rangeFunc g ps asg body) Qp s := by
 rintro a0 w ⟨O, θ, hs⟩
 obtain ⟨sp, tr, t0, t1, t2⟩ := runs_trace B rows q0 lr hL
 refine wpIn_rangeFunc ?_
 intro fn _
 -- the closure
 have hclo : ∃ us : Array Value, a0.eval g = .func (.func f) #[] us ∧ ∃ I0 : Nat → Prop, (∀ g, I0 g → O g ∧ g < w.heap.size ∧ ¬ c.X g) ∧ ItArgs w O I0 pre bx post us ∧ ∀ g, I0 g → ∃ k b v, kk = some k ∧ look k s.hp = some b ∧ θ k = some v ∧ blkOf v = some g := by
  cases kk with
  | none =>
   obtain ⟨rfl, hv⟩ := hg
   have := ev_pv hs hv
   generalize a0.eval g = v at this
   cases this with
   | fn _ _ us hn hh => exact ⟨us, rfl, fun _ => False, fun _ h => h.elim, ⟨hn, hh⟩, fun _ h => h.elim⟩
  | some k =>
   obtain ⟨t, cells, rfl, hv, hk⟩ := hg
   have := ev_ok hs hv
   generalize a0.eval g = v at this
   cases this with
   | fn _ _ us hn hh =>
    obtain ⟨v', hv', hb, hgv⟩ := hs.hp k _ hk
    obtain ⟨gb, us', rfl, b1, b2, b3⟩ := hb
    obtain ⟨g1, g2, g3, g4⟩ := hgv gb rfl
    have hlen : us.size = pre.length + 1 + post.length := by rw [hn]; simp; omega
    have hu : us[pre.length]? = some us[pre.length] := by simp
    have hmid := hh pre.length (.lp k 0) _ (by simp) hu
    generalize us[pre.length] = up at hmid hu
    cases hmid with
    | lp _ _ g' hmid =>
     rw [hv'] at hmid; cases hmid
     refine ⟨us, rfl, fun g => g = gb, fun g hg => hg ▸ ⟨g1, g2, g4⟩, ⟨hlen, fun i p u hp hu => ?_, fun i p u hp hu => ?_, gb, hu, ⟨gb, us', rfl, b1, b2, fun j x u hx hu => ?_⟩, g1, rfl⟩, fun g hg => ⟨k, _, _, rfl, hk, hv', by rw [hg]; rfl⟩⟩
     ·have hi : i < pre.length := (List.getElem?_eq_some_iff.1 hp).1
      exact rda_pv (hh i (.pv p) u (by rw [List.getElem?_append_left (by simpa using hi), List.getElem?_map, hp]; rfl) hu)
     ·refine rda_pv (hh _ (.pv p) u ?_ hu)
      rw [List.getElem?_append_right (by simp; omega)]
      simp only [List.length_map]
      rw [show pre.length + 1 + i - pre.length = i + 1 by omega, List.getElem?_cons_succ, List.getElem?_map, hp]; rfl
     ·have := b3 j x u hx hu
      simp only [List.getElem?_map, Option.map_eq_some_iff] at hx
      obtain ⟨q, hq, rfl⟩ := hx
      exact ⟨.pv _ _ (rda_pv this.1), this.2⟩
 obtain ⟨us, hga, I0, hI0, hargs, hI0k⟩ := hclo
 obtain ⟨rec, hrec⟩ : ∃ rec : LoopState → Option Code → Loop, rec = mkRec fn a0.tmps ps asg body w.heap.size := ⟨_, rfl⟩
 obtain ⟨W1, hW1⟩ : ∃ W1, (w.alloc (.deferred (some []))).alloc (.loop (rec .ready none)) = W1 := ⟨_, rfl⟩
 have hsz1 : W1.heap.size = w.heap.size + 2 := by rw [← hW1]; simp
 have hL1 : W1.heap[w.heap.size + 1]? = some (.loop (rec .ready none)) := by
  rw [← hW1]; have := World.alloc_heap_new (w.alloc (.deferred (some []))) (.loop (rec .ready none)); rwa [World.size_alloc] at this
 have hK1 : W1.heap[w.heap.size]? = some (.deferred (some [])) := by
  rw [← hW1]; exact (Below.heap_alloc _ _ _ (by simp)).trans (World.alloc_heap_new w _)
 have hold : ∀ b, b < w.heap.size → W1.heap[b]? = w.heap[b]? := by
  intro b hb
  rw [← hW1]
  exact (Below.heap_alloc _ _ _ (by simp; omega)).trans (Below.heap_alloc _ _ _ (by omega))
 have hW1os : W1.os = w.os ∧ W1.tape = w.tape ∧ W1.output = w.output := by rw [← hW1]; exact ⟨rfl, rfl, rfl⟩
 refine ⟨w.heap.size + 1, [{ target := .collected w.heap.size, args := #[] }], W1, { target := .fn (.func f) us, args := #[.func (.yield (w.heap.size + 1)) #[] #[]] }, W1, f,
  #[.func (.yield (w.heap.size + 1)) #[] #[]] ++ us, W1, ?_, ?_, ?_, ?_, fun h => by simp [FF, Fence.wide] at h, ?_⟩
 ·rw [← hW1, hrec]; exact run_enterLoop_outer _ _ _ _ _
 ·simp only [resolve, hga]
  simp [go_sem]
 ·intro f' _; trivial
 ·simp [invoke, go_sem, callB_spec hB]
 let a1 : Act := { a0 with defers := [{ target := .collected w.heap.size, args := #[] }] ++ a0.defers }
 let O1 : Nat → Prop := fun g => O g ∨ g = w.heap.size ∨ g = w.heap.size + 1
 have hO1 : ∀ b, b < w.heap.size → ¬ O b → ¬ O1 b ∧ W1.heap[b]? = w.heap[b]? := fun b hb hn => ⟨fun h => by
  rcases h with h | h | h
  ·exact hn h
  ·omega
  ·omega, hold b hb⟩
 have hle : w.heap.size ≤ W1.heap.size := by omega
 have hltO1 : ∀ g, O1 g → g < W1.heap.size := fun g hg => by
  rcases hg with h | h | h
  ·have := hs.olt g h; omega
  ·omega
  ·omega
 have hlook : ∀ id b, look id (S q0).hp = some b → look id s.hp = some b ∧ id < (S q0).next ∧ kk ≠ some id := fun id b hb => hH.spec id b (look_mem hb)
 -- the values of the frame speak of names that are left
 have hj0 : c.J s.ys O1 (fun g => Mine c s θ a1.defers g ∨ g = w.heap.size + 1) W1 := by
  refine c.Jst hs.jn ⟨hW1os.1, hW1os.2.1, hW1os.2.2, hle, fun b hb _ => hold b hb, fun g hg => ?_, fun g h _ => .inl h, hltO1, fun g hg => ?_⟩
  ·rcases hg with h | h | h
   ·exact .inl h
   ·exact .inr (by omega)
   ·exact .inr (by omega)
  ·rcases hg with (h | h | ⟨d, h, h2⟩) | h
   ·exact .inl (.inl h)
   ·exact .inl (.inr (.inl h))
   ·rcases List.mem_cons.1 h with h3 | h3
    ·subst h3; cases h2; exact .inr (Nat.le_refl _)
    ·exact .inl (.inr (.inr ⟨d, h3, h2⟩))
   ·exact .inr (by omega)
 have hI0m : ∀ g, I0 g → Mine c s θ a1.defers g := fun g hg => by
  obtain ⟨k, b, v, _, h2, h3, h4⟩ := hI0k g hg
  exact .inr (.inl ⟨k, b, v, h2, h3, h4⟩)
 have hst0 : RSt c (S q0) O1 I0 θ a1 W1 (w.heap.size + 1) (rec .ready none) := by
  have hj2 : c.J (S q0).ys O1 (fun g => Mine c (S q0) θ a1.defers g ∨ I0 g ∨ g = w.heap.size + 1) W1 := by
   rw [hys]
   refine c.Jst hj0 ⟨rfl, rfl, rfl, Nat.le_refl _, fun _ _ _ => rfl, fun g h => .inl h, fun g h _ => h, hltO1, fun g hg => .inl ?_⟩
   rcases hg with (h | ⟨id, b, v, h1, h2, h3⟩ | h) | h | h
   ·exact .inl (.inl h)
   ·exact .inl (.inr (.inl ⟨id, b, v, (hlook id b h1).1, h2, h3⟩))
   ·exact .inl (.inr (.inr h))
   ·exact .inl (hI0m g h)
   ·exact .inr h
  refine ⟨⟨hs.size.trans (hS q0).n.symm, ?_, fun t x hx => (hs.fr t x (hF.spec t x (look_mem hx))).mono hle hO1 (fun _ _ e => e), fun id b hb => ?_, fun i j bi bj vi vj g hi hj => hs.inj i j bi bj vi vj g (hlook i bi hi).1 (hlook j bj hj).1, fun id v hv => ⟨by rw [hnx]; exact (hs.dom id v hv).1, by rw [(hS q0).free]; simp⟩, fun k hk => by rw [(hS q0).free] at hk; simp at hk, hs.one, hltO1, ⟨hW1os.1.trans hs.ext.os, hW1os.2.1.trans hs.ext.tape, hW1os.2.2.trans hs.ext.output, Nat.le_trans hs.ext.size hle, fun b hb hL => ?_⟩, fun g hg => .inl (hs.xo g hg), hs.xlt, hs.llt, fun d hd => ?_, fun g hg hlt => ?_, ?_, ?_⟩, hj2, ?_, fun g hg => (hI0 g hg).2.2, .inr (.inr rfl), hL1, Nat.le_succ_of_le hs.ext.size⟩
  ·refine List.nodup_cons.2 ⟨fun hm => ?_, hs.df⟩
   obtain ⟨D, he, hD, _⟩ := hs.marks _ hm
   cases he
   have := heap_lt hD; omega
  ·obtain ⟨h1, _, h3⟩ := hlook id b hb
   obtain ⟨v, hv, hbo, hgv⟩ := hs.hp id b h1
   exact ⟨v, hv, hbo.mono hle hO1 (fun _ _ e => e) (fun g hgg => hold g (hgv g hgg).2.1), fun g hgg => ⟨.inl (hgv g hgg).1, Nat.lt_of_lt_of_le (hgv g hgg).2.1 hle, (hgv g hgg).2.2⟩⟩
  ·rw [hold b (Nat.lt_of_lt_of_le hb hs.ext.size)]; exact hs.ext.block b hb hL
  ·rcases List.mem_cons.1 hd with h | h
   ·subst h; exact ⟨_, rfl, hK1, .inr (.inl rfl), hs.ext.size⟩
   ·obtain ⟨D, rfl, hD, hOD, h0⟩ := hs.marks d h
    exact ⟨D, rfl, by rw [hold D (heap_lt hD)]; exact hD, .inl hOD, h0⟩
  ·rcases hg with h | h | h
   ·exact hs.oc g h hlt
   ·have := hs.ext.size; omega
   ·have := hs.ext.size; omega
  ·intro t ht
   rw [(hS q0).kt] at ht
   exact hs.kp t ht
  ·exact c.Jst hj2 ⟨rfl, rfl, rfl, Nat.le_refl _, fun _ _ _ => rfl, fun g h => .inl h, fun g h _ => h, hltO1, fun g hg => .inl (.inl hg)⟩
  ·intro g hg hI
   obtain ⟨k, b, v, h1, h2, h3, h4⟩ := hI0k g hI
   have hglt := (hI0 g hI).2.1
   rcases hg with ⟨id, b', v', q1, q2, q3⟩ | ⟨d, hd, hd2⟩ | rfl
   ·obtain ⟨r1, _, r3⟩ := hlook id b' q1
    have := hs.inj id k b' b v' v g r1 h2 q2 h3 q3 h4
    subst this
    exact r3 h1
   ·obtain ⟨v2, hv2, hbo, _⟩ := hs.hp k b h2
    rw [h3] at hv2; cases hv2
    obtain ⟨_, hcl, hmb⟩ := hbo.cells h4
    rcases List.mem_cons.1 hd with h | h
    ·subst h; cases hd2; omega
    ·obtain ⟨D, rfl, hD, _⟩ := hs.marks d h
     cases hd2; rw [hD] at hcl; cases hcl; cases hmb
   ·omega
 have hJst : ∀ {k : Nat} {O I : Nat → Prop} {w' : World} {O' I' : Nat → Prop} {w'' : World}, RTr c S SE a1 (w.heap.size + 1) rec (tr k) O I w' → Stp O I w' O' I' w'' → RTr c S SE a1 (w.heap.size + 1) rec (tr k) O' I' w'' := by
  intro k O2 I2 w2 O3 I3 w3 h hstp
  generalize tr k = r at h ⊢
  cases r with
  | next q => obtain ⟨θ, h⟩ := h; exact ⟨θ, h.stp hstp⟩
  | stop e => obtain ⟨θ, h⟩ := h; exact ⟨θ, h.stp hstp⟩
 subst hrec
 have hJG : ∀ (k : Nat) {O I : Nat → Prop} {w' : World}, RTr c S SE a1 (w.heap.size + 1) (mkRec fn a0.tmps ps asg body w.heap.size) (tr k) O I w' → GlobOk G w' O := by
  intro k O I w' h
  unfold RTr at h
  split at h
  ·obtain ⟨θ, h⟩ := h; exact c.JG h.jn
  ·obtain ⟨θ, h⟩ := h; exact c.JG h.jn
 have hcall := hit sp (w.heap.size + 1) (fun k O I W => k ≤ min (sp + 1) rows.length ∧ RTr c S SE a1 (w.heap.size + 1) (mkRec fn a0.tmps ps asg body w.heap.size) (tr k) O I W) (fun h hstp => ⟨h.1, hJst h.2 hstp⟩) (fun {k O I W} h => hJG k h.2) W1 O1 I0 us hltO1 (fun g hg => .inl (hI0 g hg).1) ?_ ?_ ⟨Nat.zero_le _, by rw [t0]; exact ⟨θ, hst0⟩⟩
 ·refine CallsIn.mono (callsIn_wide (n := 0 - 1).2 hcall) ?_
  rintro e' w' ⟨v, O', I', rfl, -, hR⟩
  rw [List.length_map, t1] at hR
  cases lr with
  | next q =>
   obtain ⟨θ', hR⟩ := hR
   have hT := hR.turn { mkRec fn a0.tmps ps asg body w.heap.size .ready none with state := .exhausted }
   exact ⟨none, _, run_endLoop (P := P) hR.hl (by simp [mkRec]), hN q rfl a1 _ ⟨O', θ', hT.sim⟩⟩
  | stop ee =>
   obtain ⟨θ', hR⟩ := hR
   have hT := hR.turn { mkRec fn a0.tmps ps asg body w.heap.size .done (jumpOf (SE ee).1) with state := .exhausted }
   refine ⟨jumpOf (SE ee).1, _, run_endLoop (P := P) hR.hl (by simp [mkRec]), ?_⟩
   have hp := hE ee rfl a1 _ ⟨O', θ', hT.sim⟩
   have hj := hjm ee
   simp only [mkRec] at hp ⊢
   generalize (SE ee).1 = x at hp hj ⊢
   cases x with
   | ret => exact wpIn_ret hp
   | exit id => exact wpIn_exit hp
   | _ => simp [jumpOf] at hj
 ·have rdm : ∀ {p : PV} {v : Value}, Rd w O p v → Rd W1 O1 p v := fun h => h.mono hle hO1
  cases bx with
  | none => exact ⟨hargs.1, fun i p v hp hv => rdm (hargs.2 i p v hp hv)⟩
  | some b =>
   obtain ⟨t, cells⟩ := b
   obtain ⟨h1, h2, h3, g, h4, h5, h6, h7⟩ := hargs
   exact ⟨h1, fun i p v hp hv => rdm (h2 i p v hp hv), fun i p v hp hv => rdm (h3 i p v hp hv), g, h4, h5.mono hle hO1 (fun _ _ h => by cases h) (fun g' hg' => hold g' (by cases hg'; exact (hI0 g h7).2.1)), .inl h6, h7⟩
 ·rintro k row W O2 I2 us2 ⟨hk, hR⟩ hrow hksp hrl husz hrd hO2 hI2
  have hklt : k < min (sp + 1) rows.length := by
   have := (List.getElem?_eq_some_iff.1 hrow).1
   simp at this; omega
  obtain ⟨x, q, k1, k2, k3, k4, k5⟩ := t2 k hklt
  have : row = e x := by rw [List.getElem?_map, k1] at hrow; simpa using hrow.symm
  subst this
  rw [k2] at hR
  obtain ⟨θ2, hR⟩ := hR
  obtain ⟨fn2, tmps2, assign2, body2, r1, r2⟩ := round_ok (P := P) (s := s) (kt := kt) (psl := psl) (a0 := a0) (a1 := a1) (S := S) (SE := SE) (q := q) (r := tr (k + 1)) (row := e x) (D := w.heap.size) (fn := fn) (SA x q) hpsl hnd hkp hS hSE rfl hs.size (by rw [husz, hm]) hrd hI2 ⟨θ2, hR⟩ (fun c' hc' => hasg _ c' x q hc') (fun c' hc' => hbody _ c' x q _ hc' k3)
  refine ⟨fn2, tmps2, assign2, body2, r1, RoundIn.mono r2 ?_⟩
  rintro e' W' ⟨O', rfl, hT, hrel⟩
  refine ⟨O', ?_, ⟨hklt, hT⟩, hrel⟩
  cases hb : k == sp with
  | true => obtain ⟨ee, he⟩ := k4 hb; rw [he]; rfl
  | false => obtain ⟨q', hq⟩ := k5 hb; rw [hq]; rfl
end
end Go.Abs
namespace Go.Abs
variable {G : List (Nat × List PV)}
section
variable {P : Program} {c c' : Cx G} {s : St}
theorem ItCx.round {l m sp : Nat} {rows : List (List PV)} (h : ItCx P l m rows sp c) (hc : CxR c c') : ItCx P l m rows sp c' := ⟨by rw [hc.J]; exact h.y, hc.xk h.xk⟩
theorem post_rnd {Q E : Type} {S : Q → St} {SE : E → Exit × St} {kt : List Nat} {r : Ctl E Q} (q : Q) (hr : r = .next q) (hi : Imp c s ((S q).kept kt)) : Post c (RndPost c S SE kt r) .normal s := fun a w hs => ⟨q, hr, hi a w hs⟩
theorem post_rnd_exit {Q E : Type} {S : Q → St} {SE : E → Exit × St} {kt : List Nat} {r : Ctl E Q} {id : Nat} (e : E) (hr : r = .stop e) (he : (SE e).1 = .exit id) (hi : Imp c s ((SE e).2.kept kt)) : Post c (RndPost c S SE kt r) (.exit id) s := fun a w hs => ⟨e, hr, he, hi a w hs⟩
theorem post_rnd_ret {Q E : Type} {S : Q → St} {SE : E → Exit × St} {kt : List Nat} {r : Ctl E Q} (e : E) (hr : r = .stop e) (he : (SE e).1 = .ret) (hi : Imp c s ((SE e).2.kept kt)) : Post c (RndPost c S SE kt r) .ret s := fun a w hs => ⟨e, hr, he, hi a w hs⟩
noncomputable def yck {X : Type} (rows : List X) (sp k : Nat) (x : X) : Option Unit :=
 haveI := Classical.propDecidable (rows[k]? = some x ∧ k ≤ sp)
 if rows[k]? = some x ∧ k ≤ sp then some () else none
theorem yck_spec {X : Type} {rows : List X} {sp k : Nat} {x : X} {u : Unit} (h : yck rows sp k x = some u) : rows[k]? = some x ∧ k ≤ sp := by
 unfold yck at h
 split at h
 ·assumption
 ·cases h
theorem yck_row {X : Type} {rows : List X} {sp k : Nat} {x : X} {u : Unit} (e : X → List PV) (h : yck rows sp k x = some u) : (rows.map e)[k]? = some (e x) := by rw [List.getElem?_map, (yck_spec h).1]; rfl
theorem yck_ok {X : Type} {rows : List X} {sp k : Nat} {x : X} (h1 : rows[k]? = some x) (h2 : k ≤ sp) : yck rows sp k x = some () := by unfold yck; rw [if_pos ⟨h1, h2⟩]
theorem it_len {k sp : Nat} {X : Type} {e : X → List PV} {rows : List X} (h : some k = some (min (sp + 1) rows.length)) : k = min (sp + 1) (rows.map e).length := by rw [List.length_map]; exact Option.some.inj h
end
end Go.Abs
namespace Go.Abs
variable {G : List (Nat × List PV)}
def CapF (id : Nat) (ps : List PV) : List AV → List AV → Prop
 | [], [] => True
 | x :: xs, y :: ys => (x = y ∨ (x = .lp id 0 ∧ y = .pv (.vp ps))) ∧ CapF id ps xs ys
 | _, _ => False
theorem CapF.spec {id : Nat} {ps : List PV} : ∀ {xs ys : List AV}, CapF id ps xs ys → xs.length = ys.length ∧ ∀ (i : Nat) (x y : AV), xs[i]? = some x → ys[i]? = some y → x = y ∨ (x = .lp id 0 ∧ y = .pv (.vp ps))
 | [], [], _ => ⟨rfl, fun i x y h => by simp at h⟩
 | x :: xs, y :: ys, h => by
  obtain ⟨h1, h2⟩ := CapF.spec h.2
  refine ⟨by simp [h1], fun i x' y' hx hy => ?_⟩
  cases i with
  | zero => simp at hx hy; subst hx; subst hy; exact h.1
  | succ i => exact h2 i x' y' (by simpa using hx) (by simpa using hy)
 | [], _ :: _, h | _ :: _, [], h => by simp [CapF] at h
theorem imp_freeze_cap {c : Cx G} {s : St} (t id : Nat) (caps' : List AV) {f T : Nat} {caps cells : List AV} {ps : List PV} (h : look t s.fr = some (.fn f caps)) (hb : look id s.hp = some (.box T cells)) (hps : pvs cells = some ps) (hone : ps.all PV.one = true) (hc : CapF id ps caps caps') :
  Imp c s { (s.freeze [(id, some (.box T cells))] []) with fr := (t, some (.fn f caps')) :: s.fr } := by
 rintro a w ⟨O, θ, hs⟩
 have hfz : ∀ x ∈ [(id, some (Blk.box T cells))], ∃ b, x.2 = some b ∧ look x.1 s.hp = some b := by
  intro x hx
  simp at hx; subst hx
  exact ⟨_, rfl, hb⟩
 have h' := hs.frozen [(id, some (.box T cells))] [] hfz trivial
 have hfz' : ∀ i b, look i [(id, some (Blk.box T cells))] = some b → look i s.hp = some b := by
  intro i b hl
  obtain ⟨b', h1, h2⟩ := hfz _ (look_mem hl)
  cases h1; exact h2
 refine ⟨_, θ, h'.size, h'.df, fun t' x hx => ?_, h'.hp, h'.inj, h'.dom, h'.flt, h'.one, h'.olt, h'.ext, h'.xo, h'.xlt, h'.llt, h'.marks, h'.oc, h'.kp, h'.jn⟩
 simp only [look_cons] at hx
 split at hx
 ·rename_i e; subst e; cases hx
  have hr := hs.fr _ _ h
  generalize a.tmps.getD t undef = v at hr
  obtain ⟨k1, k2⟩ := hc.spec
  cases hr with
  | fn _ _ us hn hh =>
   refine .fn _ _ us (by rw [hn, k1]) fun i y u hy hu => ?_
   have hi : i < caps.length := by rw [k1]; exact (List.getElem?_eq_some_iff.1 hy).1
   have hx := hh i caps[i] u (List.getElem?_eq_getElem hi) hu
   rcases k2 i caps[i] y (List.getElem?_eq_getElem hi) hy with e | ⟨e1, e2⟩
   ·rw [← e]
    exact hx.mono (Nat.le_refl _) (fun b _ hn => ⟨fun h => hn h.1, rfl⟩) (fun _ _ e => e)
   ·rw [e1] at hx
    subst e2
    cases hx with
    | lp _ _ g hx =>
     have := view_lp (off := 0) hs hfz' (O2 := fun g => O g ∧ ∀ id' b u, look id' s.hp = some b → (id', some b) ∈ [(id, some (Blk.box T cells))] → θ id' = some u → blkOf u ≠ some g) (fun g h => h.1) (fun i b u g q1 q2 q3 q4 => q4.2 i b u (hfz' _ _ q1) (look_mem q1) q2 q3) hx (show look id [(id, some (Blk.box T cells))] = some (.box T cells) by simp [look]) hps hone
     exact .pv _ _ this
 ·exact h'.fr t' x hx
end Go.Abs
namespace Go.Abs
variable {G : List (Nat × List PV)}
theorem vsR {α : Type} {f : α → List PV} {g : List α → List (List PV)} {w : World} {O : Nat → Prop} {cs : List Value} {sz : Nat} {l : List α} (hm : ∀ l, g l = l.map f) (h : Reads1 w O cs (eL sz f l)) : Reads1 w O cs [.vs sz (g l)] := by rw [hm]; exact h
end Go.Abs

/- Functions of the library that have no body. -/
namespace Go.Abs
variable {G : List (Nat × List PV)}
open Go.RowKit
section
variable {ro : Option Nat} {P : Program} {c : Cx G} {s : St} {o : Oper} {d : Option Nat}
end
end Go.Abs

/- Maps of the call's own, from strings to numbers. -/
namespace Go.Abs
variable {G : List (Nat × List PV)}
open Go.RowKit
section
variable {ro : Option Nat} {P : Program} {c : Cx G} {s : St} {o : Oper} {d : Option Nat}
theorem mapAt_look {w : World} {T k e n b : Nat} {m : List UInt8 → Option Int} {key : List UInt8} {kv : Value} (h : MapAt w P T n m b) (m1 : P.underlying T = some (.map k e)) (m3 : P.underlying e = some (.int .i64)) (hz : zeroIs P e (.int .i64 0)) (hk : keyOf P k kv = some (.string key)) :
  (Instr.lookup T (.map (some b)) kv false).run P w = .ok (.int .i64 ((m key).getD 0)) w ∧ (Instr.lookup T (.map (some b)) kv true).run P w = .ok (.tuple #[.int .i64 ((m key).getD 0), .bool (m key).isSome]) w := by
 obtain ⟨k', e', D, q1, q2, q3, q4, q5, q6⟩ := h
 rw [m1] at q1; cases q1
 obtain ⟨h3, h2'⟩ := q6 key
 constructor
 ·obtain ⟨cc, h1, h2, _⟩ := q4.lookup_int (Maps.Keyed.of_law q2) m1 m3 (zeroIs_spec hz w).1 hk
  rw [h2'] at h2
  injection h2 with h2; injection h2 with _ h2
  rw [h1, h2]
 ·obtain ⟨v, ps, h1, h2⟩ := q4.look_ok (Maps.Keyed.of_law q2) m1 (zeroIs_spec hz w).1 (plainElem_int m3 (by decide)) hk
  obtain ⟨x, rfl, h4, _⟩ := plainElem_int_inv m3 h2
  rw [h2'] at h4
  injection h4 with h4; injection h4 with h4; injection h4 with _ h4
  rw [h1, h3, h4]
theorem mapAt_put {w : World} {T k e n b : Nat} {m : List UInt8 → Option Int} {key : List UInt8} {kv : Value} {v : Int} (h : MapAt w P T n m b) (m1 : P.underlying T = some (.map k e)) (m3 : P.underlying e = some (.int .i64)) (hk : keyOf P k kv = some (.string key)) (hn : n < maxLen) (hv1 : IntKind.i64.min ≤ v) (hv2 : v ≤ IntKind.i64.max) :
  ∃ w', (Instr.mapUpdate T (.map (some b)) kv (.int .i64 v)).run P w = .ok () w' ∧ w.grownBy w' (some b) ∧ MapAt w' P T (n + 1) (fun x => if x = key then some v else m x) b := by
 obtain ⟨k', e', D, q1, q2, q3, q4, q5, q6⟩ := h
 rw [m1] at q1; cases q1
 obtain ⟨w', h1, h2, h3⟩ := q4.update (Maps.Keyed.of_law q2) m1 hn hk (plainElem_int m3 (a := v) (by show (decide _ && decide _) = true; rw [decide_eq_true hv1, decide_eq_true hv2]; rfl))
 refine ⟨w', h1, h3, k, e, _, m1, q2, m3, h2, q5.put _ _, fun key' => ?_⟩
 show _ ∧ _ = DataW.lit (.int .i64 (Option.getD (if key' = key then some v else m key') 0))
 by_cases hkk : key' = key
 ·subst hkk
  rw [Maps.atKey_put_same q5 (show WideAt.IsKeyLit (.string key') from trivial), if_pos rfl, Maps.has_put_same q5 (show WideAt.IsKeyLit (.string key') from trivial)]
  exact ⟨by simp, rfl⟩
 ·rw [Maps.atKey_put_other (fun h => hkk (by injection h)), (q6 key').2, if_neg hkk, Maps.has_put_other (fun h => hkk (by injection h)), (q6 key').1]
  exact ⟨by simp [hkk], rfl⟩
end
end Go.Abs

/- Arrays: slices of them, elements at whatever place; slices without spare places. -/
namespace Go.Abs
variable {G : List (Nat × List PV)}
open Go.RowKit
section
variable {ro : Option Nat} {P : Program} {c : Cx G} {s s' : St} {o : Oper} {d : Option Nat}
def placesA (n sz : Nat) : List (Nat × Nat) := (List.range n).map fun i => (i * sz, sz)
theorem op_buildArr {T n e sz : Nat} {parts : List (Nat × Operand)} {z : Value} {zs r : List PV} {xs : List (Nat × AV)} (ho : o.op = .build T parts.toArray) (hz : zeroIs P T z) (hzs : czs z.cells.toList zs) (ht : arrayB P T n e sz = true)
  (hx : evs s parts = some xs) (hr : fillPV (placesA n sz) zs xs = some r) (hd : o.dst = d) (hn : dOk s d = true) : OpOk ro P c o s (s.put d (some (.pv (.agg r)))) :=
 opOk_value hd hn (by rw [ho]; intro k h; cases h) fun a w O θ hs => by
  obtain ⟨i, t1, t2, t3⟩ := arrayB_spec ht
  obtain ⟨us', h1, h2⟩ := fill_ok (place := placesA n sz) (pf := fun i => some (i * sz, sz)) (fun i p hp => by
   unfold placesA at hp
   rw [List.getElem?_map, Option.map_eq_some_iff] at hp
   obtain ⟨k, hk, rfl⟩ := hp
   obtain ⟨_, hk2⟩ := List.getElem?_eq_some_iff.1 hk
   simp at hk2; subst hk2; rfl) hs parts xs zs z.cells r hx hr (czs_reads1 hzs)
  refine ⟨.agg us', ?_, .pv _ _ (by have := rd_of_reads1 h2; simpa using this)⟩
  simp [execOp, ho, Instr.build, (zeroIs_spec hz w).1, run_underlying t1, sizeOf, typeInfo, t2, t3, h1]
theorem op_store_lpV {T n : Nat} {x y : Operand} {id k : Nat} {t : TypeId} {cells cells' : List AV} {v : AV} (ho : o.op = .store T x y) (hx : ev s x = some (.lp id k)) (hy : ev s y = some v) (hc : v.cellish = true)
  (hb : look id s.hp = some (.box t cells)) (hT : (oneB P T || aggB P T n) = true) (hn1 : v.cells.length = (bif oneB P T then 1 else n)) (hfit : k + v.cells.length ≤ cells.length) (hs' : splice cells k v.cells = cells') (hd : o.dst = d) (hk : ktB s d = true) :
  OpOk ro P c o s ((s.setBlk id (some (.box t cells'))).put d none) := by
 subst hs'
 exact op_store_lp ho hx hy hc hb hT hn1 (Nat.ble_eq_true_of_le hfit) hd hk
end
def A2.set {α : Type} (x : A2 α) : Nat → α → A2 α
 | 0, v => ⟨v, x.a1⟩
 | _, v => ⟨x.a0, v⟩
def A3.set {α : Type} (x : A3 α) : Nat → α → A3 α
 | 0, v => ⟨v, x.a1, x.a2⟩
 | 1, v => ⟨x.a0, v, x.a2⟩
 | _, v => ⟨x.a0, x.a1, v⟩
def A4.set {α : Type} (x : A4 α) : Nat → α → A4 α
 | 0, v => ⟨v, x.a1, x.a2, x.a3⟩
 | 1, v => ⟨x.a0, v, x.a2, x.a3⟩
 | 2, v => ⟨x.a0, x.a1, v, x.a3⟩
 | _, v => ⟨x.a0, x.a1, x.a2, v⟩
theorem idx_l4 {α : Type} {x : A4 α} {i : Int} {z : α} (h : idx x.l i = some z) : i.toNat = 0 ∨ i.toNat = 1 ∨ i.toNat = 2 ∨ i.toNat = 3 := by
 obtain ⟨h0, _, h1⟩ := idx_spec h; have : (x.l.length : Int) = 4 := rfl; omega
end Go.Abs

/- Functions as values, with what they compute. -/
namespace Go.Abs
variable {G : List (Nat × List PV)}
open Go.RowKit
structure Clo (G : List (Nat × List PV)) (P : Program) (A R : Type) (ea : A → List PV) (er : R → List Res) where
 f : Nat
 c : List PV
 q : A → Option R
 b : callB P f = true
 h : ∀ (a : A) (r : R), q a = some r → Fn G P f (ea a ++ c) (er r)
end Go.Abs
namespace Go.Abs
variable {G : List (Nat × List PV)}
end Go.Abs

/- Functions that are handed boxes of the caller's, to write into them. -/
namespace Go.Abs
variable {G : List (Nat × List PV)}
open Go.RowKit
theorem RdA.mapF {w : World} {O : Nat → Prop} {θ θ' : Nat → Option Value} (ρ : Nat → Nat) (hθ : ∀ i v, θ i = some v → θ' (ρ i) = some v) :
  ∀ {x : AV} {v : Value}, RdA w O θ x v → RdA w O θ' (x.map ρ) v := by
 intro x v h
 induction h with
 | pv p v h => exact .pv _ v h
 | ls id v h => exact .ls _ v (hθ _ _ h)
 | le id sz i off g n cap h => exact .le _ _ _ _ g n cap (hθ _ _ h)
 | lp id off g h => exact .lp _ _ g (hθ _ _ h)
 | ra id m g n cap h h0 => exact .ra _ _ g n cap (hθ _ _ h) h0
 | aw id off n g h => exact .aw _ _ _ g (hθ _ _ h)
 | sp id sz r v0 v h hc => exact .sp _ _ _ v0 v (hθ _ _ h) hc
 | bp0 id => exact .bp0 _
 | any v => exact .any v
 | bp1 id g h => exact .bp1 _ g (hθ _ _ h)
 | cs sz rows v h hc => exact .cs _ _ v h hc
 | fn f caps us hn h ih =>
  refine .fn _ _ us (by rw [hn, AV.mapL_length]) fun i c u hc hu => ?_
  rw [AV.mapL_get, Option.map_eq_some_iff] at hc
  obtain ⟨c', hc', rfl⟩ := hc
  exact ih i c' u hc' hu
 | tup xs us hn h ih =>
  refine .tup _ us (by rw [hn, AV.mapL_length]) fun i c u hc hu => ?_
  rw [AV.mapL_get, Option.map_eq_some_iff] at hc
  obtain ⟨c', hc', rfl⟩ := hc
  exact ih i c' u hc' hu
 | agg xs us hn h1 h ih =>
  refine .agg _ us (by rw [hn, AV.mapL_length]) h1 fun i c u hc hu => ?_
  rw [AV.mapL_get, Option.map_eq_some_iff] at hc
  obtain ⟨c', hc', rfl⟩ := hc
  exact ih i c' u hc' hu
theorem BlkOk.mapF {w : World} {O : Nat → Prop} {θ θ' : Nat → Option Value} (ρ : Nat → Nat) (hθ : ∀ i v, θ i = some v → θ' (ρ i) = some v) {v : Value} {b : Blk} (h : BlkOk w O θ v b) : BlkOk w O θ' v (b.map ρ) := by
 cases b with
 | row e sz rows => exact h
 | box t cells =>
  obtain ⟨g, us, rfl, h1, h2, h3⟩ := h
  refine ⟨g, us, rfl, h1, by rw [AV.mapL_length]; exact h2, fun j c u hc hu => ?_⟩
  rw [AV.mapL_get, Option.map_eq_some_iff] at hc
  obtain ⟨c', hc', rfl⟩ := hc
  exact ⟨(h3 j c' u hc' hu).1.mapF ρ hθ, (h3 j c' u hc' hu).2⟩
 | dict P t n m => exact h
 | dictE P t n m key id2 =>
  obtain ⟨b, st, rfl, h4, h5⟩ := h
  exact ⟨b, st, rfl, hθ _ _ h4, h5⟩
def HpOf (hp : List (Nat × Option Blk)) (θ : Nat → Option Value) (g : Nat) : Prop := ∃ id b v, look id hp = some b ∧ θ id = some v ∧ blkOf v = some g
structure PreW (w : World) (O : Nat → Prop) (θ : Nat → Option Value) (hp : List (Nat × Option Blk)) (n : Nat) : Prop where
 own : ∀ id b, look id hp = some b → ∃ v, θ id = some v ∧ BlkOk w O θ v b ∧ ∀ g, blkOf v = some g → O g ∧ g < w.heap.size
 inj : ∀ i j bi bj vi vj g, look i hp = some bi → look j hp = some bj → θ i = some vi → θ j = some vj → blkOf vi = some g → blkOf vj = some g → i = j
 dom : ∀ id v, θ id = some v → id < n
 one : ∀ id v, θ id = some v → v.oneCell' = true
def topW : List AV → AV
 | [x] => x
 | xs => .tup xs
def FnW (G : List (Nat × List PV)) (P : Program) (f : FuncId) (args : List AV) (hp : List (Nat × Option Blk)) (n : Nat) (kb : List (Nat × Nat)) (rs : List AV) (hp' : List (Nat × Option Blk)) (n' : Nat) : Prop :=
 ∀ (w : World) (O : Nat → Prop) (θ : Nat → Option Value) (vs : Array Value), (∀ g, O g → g < w.heap.size) → GlobOk G w O → PreW w O θ hp n → vs.size = args.length →
  (∀ (i : Nat) (x : AV) (v : Value), args[i]? = some x → vs[i]? = some v → RdA w O θ x v) →
  Calls P f vs w fun e w' => ∃ v O' θ', e = .returned v ∧ Ext (HpOf hp θ) w w' ∧ (∀ g, O g → ¬ HpOf hp θ g → O' g) ∧ (∀ g, O' g → g < w'.heap.size) ∧
   (∀ g, O' g → g < w.heap.size → O g) ∧
   PreW w' O' θ' hp' n' ∧ (∀ g, HpOf hp' θ' g → HpOf hp θ g ∨ w.heap.size ≤ g) ∧ (∀ ij ∈ kb, θ' ij.2 = θ ij.1) ∧ RdA w' O' θ' (topW rs) v
def FnW.cx (w : World) (O : Nat → Prop) (hp : List (Nat × Option Blk)) (θ : Nat → Option Value) (t0 : Array Value) : Cx G :=
 { w0 := w, L := HpOf hp θ, X := fun g => O g ∧ ¬ HpOf hp θ g, K := fun _ => False, J := fun _ O _ w => GlobOk G w O, Jst := fun h s => h.stp s, JG := fun h => h, KX := fun _ h => h.elim, t0 := t0 }
def FnWPost (P : Program) (fn : Func) (w : World) (O : Nat → Prop) (θ : Nat → Option Value) (hp : List (Nat × Option Blk)) (kb : List (Nat × Nat)) (rs : List AV) (hp' : List (Nat × Option Blk)) (n' : Nat) : Exit → Act → World → Prop :=
 bodyPostM (FF none) 0 P fn fun e w' => ∃ v O' θ', e = .returned v ∧ Ext (HpOf hp θ) w w' ∧ (∀ g, O g → ¬ HpOf hp θ g → O' g) ∧ (∀ g, O' g → g < w'.heap.size) ∧
   (∀ g, O' g → g < w.heap.size → O g) ∧
   PreW w' O' θ' hp' n' ∧ (∀ g, HpOf hp' θ' g → HpOf hp θ g ∨ w.heap.size ≤ g) ∧ (∀ ij ∈ kb, θ' ij.2 = θ ij.1) ∧ RdA w' O' θ' (topW rs) v
def argsFrW : Nat → List AV → List (Nat × Option AV)
 | _, [] => []
 | i, p :: ps => (i, some p) :: argsFrW (i + 1) ps
theorem argsFrW_look : ∀ (ps : List AV) (k t : Nat) (x : AV), look t (argsFrW k ps) = some x → k ≤ t ∧ ps[t - k]? = some x
 | [], k, t, x, h => by simp [argsFrW, look] at h
 | p :: ps, k, t, x, h => by
  simp only [argsFrW, look_cons] at h
  split at h
  ·rename_i e; subst e; cases h; exact ⟨Nat.le_refl _, by simp⟩
  ·obtain ⟨h2, h3⟩ := argsFrW_look ps (k + 1) t x h
   refine ⟨by omega, ?_⟩
   rw [show t - k = (t - (k + 1)) + 1 by omega, List.getElem?_cons_succ]
   exact h3
structure WCx (c : Cx G) (w : World) (O : Nat → Prop) (θ : Nat → Option Value) (hp : List (Nat × Option Blk)) (args : List AV) : Prop where
 cx : c = FnW.cx w O hp θ c.t0
 bo : ∀ g, HpOf hp θ g → O g
 rd : ∀ (i : Nat) (x : AV), args[i]? = some x → RdA w O θ x (c.t0.getD i undef)
theorem fnW_of_body {P : Program} {f : FuncId} {fn : Func} {code : Code} {n m n' : Nat} {args : List AV} {hp hp' : List (Nat × Option Blk)} {kb : List (Nat × Nat)} {rs : List AV} (kt : List Nat) (hf : P.funcs[f]? = some fn) (hb : fn.body = some code) (hn : fn.ntmps = n) (hl : Nat.ble args.length n = true)
  (h : ∀ (c : Cx G) w O θ, WCx c w O θ hp args → AW none P c code (FnWPost P fn w O θ hp kb rs hp' n') { n := n, fr := argsFrW 0 args, hp := hp, next := m, kt := kt }) : FnW G P f args hp m kb rs hp' n' := by
 intro w O θ vs hO hglob hpre hsz hrd
 refine (callsIn_wide (n := 0)).1 (callsIn_of_wp_marks (F := FF none) hf hb trivial ?_)
 have hl' : args.length ≤ n := Nat.le_of_ble_eq_true hl
 have htm : ∀ (i : Nat) (x : AV), args[i]? = some x → RdA w O θ x ((vs ++ Array.replicate (fn.ntmps - vs.size) undef).getD i undef) := by
  intro t x hp'
  have ht : t < vs.size := by rw [hsz]; exact (List.getElem?_eq_some_iff.1 hp').1
  have hv : vs[t]? = some vs[t] := by simp [ht]
  have : (vs ++ Array.replicate (fn.ntmps - vs.size) undef).getD t undef = vs[t] := by
   simp [Array.getElem?_append, ht]
  rw [this]
  exact hrd t x _ hp' hv
 refine h (FnW.cx w O hp θ (vs ++ Array.replicate (fn.ntmps - vs.size) undef)) w O θ ⟨rfl, fun g ⟨id, b, v, q1, q2, q3⟩ => (by obtain ⟨v', h4, _, h5⟩ := hpre.own id b q1; rw [q2] at h4; cases h4; exact (h5 g q3).1), htm⟩ _ w ⟨O, θ, ?_⟩
 refine ⟨by simp [hn]; omega, .nil, ?_, fun id b hb => ?_, hpre.inj, fun id v hv => ⟨hpre.dom id v hv, by simp⟩, fun k hk => (by cases hk), hpre.one, hO, ⟨rfl, rfl, rfl, Nat.le_refl _, fun _ _ _ => rfl⟩, fun g hg => hg.1, fun g hg => hO g hg.1, fun g hg => ?_, fun d hd => (by cases hd), fun g hg _ => ?_, fun t ht => rfl, hglob⟩
 ·intro t x hx
  obtain ⟨_, hp⟩ := argsFrW_look args 0 t x hx
  exact htm t x (by simpa using hp)
 ·obtain ⟨v, hv, hbo, hg⟩ := hpre.own id b hb
  exact ⟨v, hv, hbo, fun g hgg => ⟨(hg g hgg).1, (hg g hgg).2, fun hL => (hL ⟨id, b, v, hb, hv, hgg⟩).elim, fun hX => hX.2 ⟨id, b, v, hb, hv, hgg⟩⟩⟩
 ·obtain ⟨id, b, v, h1, h2, h3⟩ := hg
  obtain ⟨v', h4, _, h5⟩ := hpre.own id b h1
  rw [h2] at h4; cases h4
  exact (h5 g h3).2
 ·by_cases hh : HpOf hp θ g
  ·exact .inr hh
  ·exact .inl ⟨hg, hh⟩
mutual
def kbOf : AV → AV → List (Nat × Nat)
 | .lp i _, .lp j _ => [(i, j)]
 | .ls i, .ls j => [(i, j)]
 | .fn _ xs, .fn _ ys => kbL xs ys
 | _, _ => []
def kbL : List AV → List AV → List (Nat × Nat)
 | x :: xs, y :: ys => kbOf x y ++ kbL xs ys
 | _, _ => []
end
theorem kbOf_ok {w w' : World} {O O' : Nat → Prop} {θ θ' : Nat → Option Value} : ∀ {x : AV} {v : Value}, RdA w O θ x v → ∀ {y : AV}, RdA w' O' θ' y v → ∀ ij ∈ kbOf x y, θ' ij.2 = θ ij.1 := by
 intro x v h
 induction h with
 | lp id off g h =>
  intro y hy ij hij
  cases hy with
  | lp id' off' g' h' =>
   simp [kbOf] at hij; subst hij
   rw [h, h']
  | _ => simp [kbOf] at hij
 | ls id v h =>
  intro y hy ij hij
  cases hy with
  | ls id' _ h' =>
   simp [kbOf] at hij; subst hij
   rw [h, h']
  | _ => simp [kbOf] at hij
 | fn f caps us hn h ih =>
  intro y hy ij hij
  cases hy with
  | fn f' caps' _ hn' h' =>
   simp only [kbOf] at hij
   have key : ∀ (xs ys : List AV) (k : Nat), (∀ i : Nat, caps[k + i]? = xs[i]?) → (∀ i : Nat, caps'[k + i]? = ys[i]?) → ∀ ij ∈ kbL xs ys, θ' ij.2 = θ ij.1 := by
    intro xs
    induction xs with
    | nil => intro ys k _ _ ij hij; simp [kbL] at hij
    | cons x xs ihx =>
     intro ys k hx hy ij hij
     cases ys with
     | nil => simp [kbL] at hij
     | cons y ys =>
      simp only [kbL, List.mem_append] at hij
      rcases hij with hij | hij
      ·have hx0 := hx 0
       have hy0 := hy 0
       simp at hx0 hy0
       have hk : k < us.size := by rw [hn]; exact (List.getElem?_eq_some_iff.1 hx0).1
       have hu : us[k]? = some us[k] := by simp [hk]
       exact ih k x _ hx0 hu (h' k y _ hy0 hu) ij hij
      ·refine ihx ys (k + 1) (fun i => ?_) (fun i => ?_) ij hij
       ·rw [show k + 1 + i = k + (i + 1) by omega, hx (i + 1)]; simp
       ·rw [show k + 1 + i = k + (i + 1) by omega, hy (i + 1)]; simp
   exact key caps caps' 0 (fun i => by simp) (fun i => by simp) ij hij
  | _ => simp [kbOf] at hij
 | _ => intro y _ ij hij; simp [kbOf] at hij
def kbAll (args : List AV) (fr : List (Nat × Option AV)) : List Nat → List (Nat × Nat)
 | [] => []
 | t :: l => (match args[t]?, look t fr with | some x, some y => kbOf x y | _, _ => []) ++ kbAll args fr l
section
variable {ro : Option Nat} {P : Program} {c : Cx G} {s s' : St} {o : Oper} {d : Option Nat}
theorem kbAll_ok {w0 : World} {O0 : Nat → Prop} {θ0 : Nat → Option Value} {hp0 : List (Nat × Option Blk)} {args : List AV} (hc : WCx c w0 O0 θ0 hp0 args) {O : Nat → Prop} {θ : Nat → Option Value} {a : Act} {w : World} (hs : SimAt c s O θ a w) :
  ∀ (l : List Nat), (∀ t ∈ l, t ∈ s.kt) → ∀ ij ∈ kbAll args s.fr l, θ ij.2 = θ0 ij.1
 | [], _, ij, h => by simp [kbAll] at h
 | t :: l, hl, ij, h => by
  simp only [kbAll, List.mem_append] at h
  rcases h with h | h
  ·split at h
   ·rename_i x y hx hy
    have h1 := hc.rd t x hx
    have h2 := hs.fr t y hy
    rw [hs.kp t (hl t (by simp))] at h2
    exact kbOf_ok h1 h2 ij h
   ·simp at h
  ·exact kbAll_ok hc hs l (fun t ht => hl t (by simp [ht])) ij h
inductive RWs (P : Program) (s : St) : List ResultVar → List AV → Prop
 | nil : RWs P s [] []
 | cons (rv : ResultVar) (x : AV) (rvs : List ResultVar) (xs : List AV) (h1 : RV P s rv x) (h3 : RWs P s rvs xs) : RWs P s (rv :: rvs) (x :: xs)
theorem RWs.run {rvs : List ResultVar} {xs : List AV} (h : RWs P s rvs xs) {O : Nat → Prop} {θ : Nat → Option Value} {a : Act} {w : World} (hs : SimAt c s O θ a w) :
  ∃ us : List Value, (rvs.mapM fun rv => rvRun rv a.tmps).run P w = .ok us w ∧ us.length = xs.length ∧ ∀ (i : Nat) (x : AV) (u : Value), xs[i]? = some x → us[i]? = some u → RdA w O θ x u := by
 induction h with
 | nil => exact ⟨[], by simp, rfl, by simp⟩
 | cons rv x rvs xs h1 h3 ih =>
  obtain ⟨us, i1, i2, i3⟩ := ih
  obtain ⟨v, e1, e2⟩ := h1.run hs
  refine ⟨v :: us, by simp [List.mapM_cons, Sem.run_bind, e1, i1], by simp [i2], fun i r' u hr hu => ?_⟩
  cases i with
  | zero => simp at hr hu; subst hr; subst hu; exact e2
  | succ i => exact i3 i r' u (by simpa using hr) (by simpa using hu)
theorem post_retW {fn : Func} {w0 : World} {O0 : Nat → Prop} {θ0 : Nat → Option Value} {hp0 : List (Nat × Option Blk)} {args : List AV} {kb : List (Nat × Nat)} {rvs : List ResultVar} {xs : List AV} {e : Exit} (hc : WCx c w0 O0 θ0 hp0 args) (hr : fn.results = rvs.toArray) (h : RWs P s rvs xs) (hkb : kbAll args s.fr s.kt = kb) (he : e = .ret ∨ e = .normal) :
  Post c (FnWPost P fn w0 O0 θ0 hp0 kb xs s.hp s.next) e s := by
 rintro a w ⟨O, θ, hs⟩
 have key : LeavesInM (FF none) 0 P fn a.tmps (fun e w' => ∃ v O' θ', e = .returned v ∧ Ext (HpOf hp0 θ0) w0 w' ∧ (∀ g, O0 g → ¬ HpOf hp0 θ0 g → O' g) ∧ (∀ g, O' g → g < w'.heap.size) ∧
   (∀ g, O' g → g < w0.heap.size → O0 g) ∧
   PreW w' O' θ' s.hp s.next ∧ (∀ g, HpOf s.hp θ' g → HpOf hp0 θ0 g ∨ w0.heap.size ≤ g) ∧ (∀ ij ∈ kb, θ' ij.2 = θ0 ij.1) ∧ RdA w' O' θ' (topW xs) v) a.defers .returning w := by
  refine leaves_marks a.defers a w rfl hs fun a' w' ht hs2 => ?_
  obtain ⟨us, h1, h2, h3⟩ := h.run hs2
  rw [ht] at h1
  have hw0 : c.w0 = w0 := by rw [hc.cx]; rfl
  have hL : c.L = HpOf hp0 θ0 := by rw [hc.cx]; rfl
  have hX : c.X = fun g => O0 g ∧ ¬ HpOf hp0 θ0 g := by rw [hc.cx]; rfl
  refine ⟨_, run_results hr h1, _, O, θ, rfl, ?_, ?_, hs2.olt, ?_, ⟨fun id b hb => ?_, hs2.inj, fun id v hv => (hs2.dom id v hv).1, hs2.one⟩, ?_, ?_, ?_⟩
  ·have he := hs2.ext; rw [hL, hw0] at he; exact he
  ·intro g h1 h2; exact hs2.xo g (by rw [hX]; exact ⟨h1, h2⟩)
  ·intro g h1 h2
   rcases hs2.oc g h1 (by rw [hw0]; exact h2) with h3 | h3
   ·rw [hX] at h3; exact h3.1
   ·rw [hL] at h3
    exact hc.bo g h3
  ·obtain ⟨v, hv, hbo, hg⟩ := hs2.hp id b hb
   exact ⟨v, hv, hbo, fun g hgg => ⟨(hg g hgg).1, (hg g hgg).2.1⟩⟩
  ·rintro g ⟨id, b, v, q1, q2, q3⟩
   obtain ⟨v', hv', _, hg⟩ := hs2.hp id b q1
   rw [q2] at hv'; cases hv'
   by_cases hh : HpOf hp0 θ0 g
   ·exact .inl hh
   ·right
    have := (hg g q3).2.2.1 (by rw [hL]; exact hh)
    rw [hw0] at this; exact this
  ·intro ij hij
   rw [← hkb] at hij
   exact kbAll_ok hc hs2 s.kt (fun t ht => ht) ij hij
  ·match xs, us, h2, h3 with
   | [r], [u], _, h3 => exact h3 0 r u rfl rfl
   | [], [], _, h3 => exact .tup [] #[] rfl (by simp)
   | r :: r' :: rs, u :: u' :: us, h2, h3 => exact .tup _ _ (by simpa using h2) (fun i r u hr hu => h3 i r u hr (by simpa using hu))
 rcases he with rfl | rfl
 ·exact key
 ·exact key
end
end Go.Abs

/- A call that writes into boxes of the caller's. -/
namespace Go.Abs
variable {G : List (Nat × List PV)}
open Go.RowKit
def capsOf : AV → Option (Nat × List AV)
 | .fn f caps => some (f, caps)
 | .pv (.fn f ps) => some (f, ps.map .pv)
 | _ => none
def freshG (s : St) (k : Nat) : Bool := Nat.ble s.next k || s.free.elem k
def keptB (L0 : List Nat) (kb : List (Nat × Nat)) (j x : Nat) : Bool := kb.any fun ij => Nat.beq ij.2 j && (match L0[ij.1]? with | some y => Nat.beq y x | none => false)
def FrL (s : St) (L0 : List Nat) (kb : List (Nat × Nat)) : Nat → List Nat → Prop
 | _, [] => True
 | j, x :: l => (keptB L0 kb j x = true ∨ freshG s x = true) ∧ FrL s L0 kb (j + 1) l
theorem FrL.spec {s : St} {L0 : List Nat} {kb : List (Nat × Nat)} : ∀ {l : List Nat} {k : Nat}, FrL s L0 kb k l → ∀ (j x : Nat), l[j]? = some x → keptB L0 kb (k + j) x = true ∨ freshG s x = true
 | [], k, h, j, x, e => by simp at e
 | y :: l, k, h, j, x, e => by
  cases j with
  | zero => simp at e; subst e; exact h.1
  | succ j => have := FrL.spec h.2 j x (by simpa using e); rw [show k + (j + 1) = k + 1 + j by omega]; exact this
def keysB (hp : List (Nat × Option Blk)) (n : Nat) : Bool := decide ((hp.map (·.1)).Nodup) && hp.all fun x => Nat.blt x.1 n && x.2.isSome
theorem look_of_mem {α : Type} : ∀ {l : List (Nat × Option α)} {k : Nat} {x : Option α}, (l.map (·.1)).Nodup → (k, x) ∈ l → look k l = x
 | [], k, x, _, h => by simp at h
 | (k', x') :: l, k, x, hn, h => by
  simp only [List.map_cons, List.nodup_cons] at hn
  rw [look_cons]
  rcases List.mem_cons.1 h with h | h
  ·cases h; simp
  ·split
   ·rename_i e; subst e
    exact (hn.1 (List.mem_map.2 ⟨_, h, rfl⟩)).elim
   ·exact look_of_mem hn.2 h
def dropB (hp hp' : List (Nat × Option Blk)) (ρ0 ρ1 : Nat → Nat) (drop : List Nat) : Bool := hp.all fun x => drop.elem (ρ0 x.1) || hp'.any fun y => Nat.beq (ρ1 y.1) (ρ0 x.1)
def updW (hp' : List (Nat × Option Blk)) (ρ1 : Nat → Nat) (drop : List Nat) : List (Nat × Option Blk) := hp'.map (fun x => (ρ1 x.1, x.2.map (Blk.map ρ1))) ++ drop.map (fun k => (k, none))
def St.callW (s : St) (hp' : List (Nat × Option Blk)) (L1 drop : List Nat) (nx : Nat) : St :=
 { s with hp := updW hp' (fun i => L1.getD i 0) drop ++ s.hp, next := nx, free := s.free.filter fun x => !(L1.elem x) }
section
variable {ro : Option Nat} {P : Program} {c : Cx G} {s s' : St} {o : Oper} {d : Option Nat}
theorem updW_look {hp hp' : List (Nat × Option Blk)} {ρ0 ρ1 : Nat → Nat} {drop : List Nat} {n' : Nat} {shp : List (Nat × Option Blk)} (hk : keysB hp' n' = true) (hd : dropB hp hp' ρ0 ρ1 drop = true) {x : Nat} {b : Blk} (h : look x (updW hp' ρ1 drop ++ shp) = some b) :
  (∃ j b', x = ρ1 j ∧ look j hp' = some b' ∧ b = b'.map ρ1) ∨ (look x shp = some b ∧ ∀ i bi, look i hp = some bi → x ≠ ρ0 i) := by
 unfold keysB at hk
 simp only [Bool.and_eq_true, decide_eq_true_eq] at hk
 rcases look_append x (updW hp' ρ1 drop) shp with ⟨y, hy, he⟩ | ⟨hno, he⟩
 ·rw [he] at h; subst h
  unfold updW at hy
  rcases List.mem_append.1 hy with hy | hy
  ·obtain ⟨⟨j, z⟩, hz, e⟩ := List.mem_map.1 hy
   injection e with e1 e2
   cases z with
   | none => simp at e2
   | some b' =>
    simp at e2
    exact .inl ⟨j, b', e1.symm, look_of_mem hk.1 hz, e2.symm⟩
  ·obtain ⟨k, _, e⟩ := List.mem_map.1 hy
   injection e with _ e2; cases e2
 ·rw [he] at h
  refine .inr ⟨h, fun i bi hi e => ?_⟩
  have := List.all_eq_true.1 hd (i, some bi) (look_mem hi)
  simp only [Bool.or_eq_true, List.any_eq_true] at this
  rcases this with h1 | ⟨⟨j, z⟩, h1, h2⟩
  ·exact hno none (by unfold updW; exact List.mem_append.2 (.inr (List.mem_map.2 ⟨ρ0 i, by simpa using h1, by rw [e]⟩)))
  ·have h2 := Nat.eq_of_beq_eq_true h2
   exact hno _ (by unfold updW; exact List.mem_append.2 (.inl (List.mem_map.2 ⟨(j, z), h1, by rw [e, ← h2]⟩)))
theorem sim_of_callW {O O' : Nat → Prop} {θ θ' : Nat → Option Value} {a : Act} {w w' : World} (hs : SimAt c s O θ a w) {hp hp' : List (Nat × Option Blk)} {n n' : Nat} {kb : List (Nat × Nat)} (L0 L1 drop : List Nat) (nx : Nat)
  (hn0 : L0.length = n) (hH : SubH s.hp (fun i => L0.getD i s.next) hp) (hn1 : L1.length = n') (hnd1 : L1.Nodup) (hfr : FrL s L0 kb 0 L1) (hk : keysB hp' n' = true) (hdr : dropB hp hp' (fun i => L0.getD i s.next) (fun i => L1.getD i 0) drop = true)
  (hnx : Nat.ble s.next nx = true) (hnx1 : L1.all (fun x => Nat.blt x nx) = true)
  (he : Ext (HpOf hp (fun i => θ (L0.getD i s.next))) w w') (hO1 : ∀ g, O g → ¬ HpOf hp (fun i => θ (L0.getD i s.next)) g → O' g) (hO2 : ∀ g, O' g → g < w'.heap.size) (_hO3 : ∀ g, O' g → g < w.heap.size → O g)
  (hpre : PreW w' O' θ' hp' n') (hnew : ∀ g, HpOf hp' θ' g → HpOf hp (fun i => θ (L0.getD i s.next)) g ∨ w.heap.size ≤ g) (hkb : ∀ ij ∈ kb, θ' ij.2 = θ (L0.getD ij.1 s.next)) :
  ∃ O2 θ2, SimAt c (s.callW hp' L1 drop nx) O2 θ2 a w' ∧ (∀ g, O2 g → O' g) ∧ (∀ j v, θ' j = some v → θ2 (L1.getD j 0) = some v) := by
 classical
 have hnone : θ s.next = none := by
  cases h : θ s.next with
  | none => rfl
  | some v => have := (hs.dom _ _ h).1; omega
 let B : Nat → Prop := HpOf hp (fun i => θ (L0.getD i s.next))
 have hB : ∀ g, B g → O g ∧ g < w.heap.size ∧ (¬ c.L g → c.w0.heap.size ≤ g) ∧ ¬ c.X g ∧ HpB s θ g ∧ ∃ o, w.heap[g]? = some o ∧ memB o = true := by
  rintro g ⟨i, bi, v, h1, h2, h3⟩
  have h4 := SubH.spec hH i bi (look_mem h1)
  obtain ⟨v', h5, h6, h7⟩ := hs.hp _ _ h4
  have : v' = v := by have h2' : θ (L0.getD i s.next) = some v := h2; rw [h5] at h2'; exact Option.some.inj h2'
  subst this
  obtain ⟨h8, h9, h10, h11⟩ := h7 g h3
  exact ⟨h8, h9, h10, h11, ⟨_, _, v', h4, h5, h3⟩, h6.cells h3⟩
 let θ2 : Nat → Option Value := fun x => if h : ∃ j : Nat, L1[j]? = some x then θ' h.choose else θ x
 have hθj : ∀ (j x : Nat), L1[j]? = some x → θ2 x = θ' j := by
  intro j x hx
  have hex : ∃ j : Nat, L1[j]? = some x := ⟨j, hx⟩
  show (if h : ∃ j : Nat, L1[j]? = some x then θ' h.choose else θ x) = _
  rw [dif_pos hex, nodup_inj hnd1 _ _ x hex.choose_spec hx]
 have hlt1 : ∀ j v, θ' j = some v → L1[j]? = some (L1.getD j 0) := by
  intro j v h
  have := hpre.dom j v h
  rw [List.getD_eq_getElem?_getD, List.getElem?_eq_getElem (by omega)]; rfl
 have hθ1 : ∀ j v, θ' j = some v → θ2 (L1.getD j 0) = some v := fun j v h => by rw [hθj j _ (hlt1 j v h)]; exact h
 have hfresh : ∀ x, freshG s x = true → θ x = none := by
  intro x hx
  cases h : θ x with
  | none => rfl
  | some v =>
   obtain ⟨h1, h2⟩ := hs.dom x v h
   simp only [freshG, Bool.or_eq_true, List.elem_eq_mem, decide_eq_true_eq] at hx
   rcases hx with hx | hx
   ·have := Nat.le_of_ble_eq_true hx; omega
   ·exact (h2 hx).elim
 have hθ : ∀ x v, θ x = some v → θ2 x = some v := by
  intro x v hx
  by_cases hex : ∃ j : Nat, L1[j]? = some x
  ·obtain ⟨j, hj⟩ := hex
   rw [hθj j x hj]
   have := FrL.spec hfr j x hj
   rw [Nat.zero_add] at this
   rcases this with h1 | h1
   ·unfold keptB at h1
    obtain ⟨⟨i, j'⟩, h2, h3⟩ := List.any_eq_true.1 h1
    simp only [Bool.and_eq_true] at h3
    obtain ⟨h3, h4⟩ := h3
    have h3 := Nat.eq_of_beq_eq_true h3
    subst h3
    split at h4
    ·rename_i y hy
     have h4 := Nat.eq_of_beq_eq_true h4
     subst h4
     have := hkb _ h2
     simp only at this hy
     rw [this, List.getD_eq_getElem?_getD, hy]; exact hx
    ·cases h4
   ·rw [hfresh x h1] at hx; cases hx
  ·show (if h : ∃ j : Nat, L1[j]? = some x then θ' h.choose else θ x) = _
   rw [dif_neg hex]; exact hx
 let O2 : Nat → Prop := fun g => (O g ∧ ¬ B g) ∨ HpOf hp' θ' g
 have hO2' : ∀ g, O2 g → O' g := by
  rintro g (⟨h1, h2⟩ | ⟨id, b, v, h1, h2, h3⟩)
  ·exact hO1 g h1 h2
  ·obtain ⟨v', h4, _, h5⟩ := hpre.own id b h1
   rw [h2] at h4; cases h4
   exact (h5 g h3).1
 have hO2O : ∀ g, O2 g → O g ∨ w.heap.size ≤ g := by
  rintro g (⟨h1, h2⟩ | h)
  ·exact .inl h1
  ·rcases hnew g h with h | h
   ·exact .inl (hB g h).1
   ·exact .inr h
 have hO : ∀ b, b < w.heap.size → ¬ O b → ¬ O2 b ∧ w'.heap[b]? = w.heap[b]? := by
  intro b hb hn
  refine ⟨fun h => ?_, he.block b hb (fun h => hn (hB b h).1)⟩
  rcases hO2O b h with h | h
  ·exact hn h
  ·omega
 have hmono' : ∀ b, b < w'.heap.size → ¬ O' b → ¬ O2 b ∧ w'.heap[b]? = w'.heap[b]? := fun b _ hn => ⟨fun h => hn (hO2' b h), rfl⟩
 -- the names of the new state
 have hget : ∀ x b, look x (s.callW hp' L1 drop nx).hp = some b → (∃ j b', x = L1.getD j 0 ∧ look j hp' = some b' ∧ b = b'.map (fun i => L1.getD i 0)) ∨
   (look x s.hp = some b ∧ ∀ v g, θ x = some v → blkOf v = some g → ¬ B g) := by
  intro x b hx
  rcases updW_look hk hdr hx with h | ⟨h1, h2⟩
  ·exact .inl h
  ·refine .inr ⟨h1, ?_⟩
   rintro v g hv hg ⟨i, bi, vi, h3, h4, h5⟩
   exact h2 i bi h3 (hs.inj x _ b _ v vi g h1 (SubH.spec hH i bi (look_mem h3)) hv h4 hg h5)
 refine ⟨O2, θ2, ?_, hO2', hθ1⟩
 refine ⟨hs.size, hs.df, fun t x hx => (hs.fr t x hx).mono he.size hO hθ, ?_, ?_, ?_, ?_, ?_, ?_, ?_, ?_, hs.xlt, hs.llt, ?_, ?_, hs.kp, ?_⟩
 ·intro x b hb
  rcases hget x b hb with ⟨j, b', rfl, h1, rfl⟩ | ⟨h1, h2⟩
  ·obtain ⟨v, hv, hbo, hg⟩ := hpre.own j b' h1
   refine ⟨v, hθ1 j v hv, (hbo.mono (Nat.le_refl _) hmono' (fun _ _ h => h) (fun _ _ => rfl)).mapF _ hθ1, fun g hgg => ?_⟩
   have hh : HpOf hp' θ' g := ⟨j, b', v, h1, hv, hgg⟩
   refine ⟨.inr hh, (hg g hgg).2, ?_, ?_⟩
   ·intro hL
    rcases hnew g hh with h3 | h3
    ·exact (hB g h3).2.2.1 hL
    ·exact Nat.le_trans hs.ext.size h3
   ·intro hX
    rcases hnew g hh with h3 | h3
    ·exact (hB g h3).2.2.2.1 hX
    ·have := hs.xlt g hX; have := hs.ext.size; omega
  ·obtain ⟨v, hv, hbo, hg⟩ := hs.hp x b h1
   refine ⟨v, hθ _ _ hv, hbo.mono he.size hO hθ (fun g hgg => he.block g (hg g hgg).2.1 (h2 v g hv hgg)), fun g hgg => ?_⟩
   obtain ⟨h5, h6, h7⟩ := hg g hgg
   exact ⟨.inl ⟨h5, h2 v g hv hgg⟩, Nat.lt_of_lt_of_le h6 he.size, h7⟩
 ·intro x y bx b_y vx vy g hx hy hvx hvy hgx hgy
  rcases hget x bx hx with ⟨j, b', rfl, h1, rfl⟩ | ⟨h1, h2⟩ <;> rcases hget y b_y hy with ⟨k, b'', rfl, h3, rfl⟩ | ⟨h3, h4⟩
  ·obtain ⟨v1, k1, _, _⟩ := hpre.own j b' h1
   obtain ⟨v2, k2, _, _⟩ := hpre.own k b'' h3
   have e1 := hθ1 j v1 k1
   have e2 := hθ1 k v2 k2
   rw [hvx] at e1; rw [hvy] at e2
   cases e1; cases e2
   rw [hpre.inj j k b' b'' vx vy g h1 h3 k1 k2 hgx hgy]
  ·exfalso
   obtain ⟨v1, k1, _, _⟩ := hpre.own j b' h1
   have e1 := hθ1 j v1 k1
   rw [hvx] at e1; cases e1
   obtain ⟨v2, k2, _, k3⟩ := hs.hp y b_y h3
   have e2 := hθ _ _ k2
   rw [hvy] at e2; cases e2
   rcases hnew g ⟨j, b', vx, h1, k1, hgx⟩ with h5 | h5
   ·exact h4 vy g k2 hgy h5
   ·have := (k3 g hgy).2.1; omega
  ·exfalso
   obtain ⟨v1, k1, _, _⟩ := hpre.own k b'' h3
   have e1 := hθ1 k v1 k1
   rw [hvy] at e1; cases e1
   obtain ⟨v2, k2, _, k3⟩ := hs.hp x bx h1
   have e2 := hθ _ _ k2
   rw [hvx] at e2; cases e2
   rcases hnew g ⟨k, b'', vy, h3, k1, hgy⟩ with h5 | h5
   ·exact h2 vx g k2 hgx h5
   ·have := (k3 g hgx).2.1; omega
  ·obtain ⟨v1, k1, _, _⟩ := hs.hp x bx h1
   obtain ⟨v2, k2, _, _⟩ := hs.hp y b_y h3
   have e1 := hθ _ _ k1
   have e2 := hθ _ _ k2
   rw [hvx] at e1; rw [hvy] at e2
   cases e1; cases e2
   exact hs.inj x y bx b_y vx vy g h1 h3 k1 k2 hgx hgy
 ·intro x v hx
  show x < nx ∧ x ∉ s.free.filter fun x => !(L1.elem x)
  by_cases hex : ∃ j : Nat, L1[j]? = some x
  ·obtain ⟨j, hj⟩ := hex
   have hm : x ∈ L1 := List.mem_of_getElem? hj
   have := List.all_eq_true.1 hnx1 x hm
   refine ⟨by simpa [Nat.blt_eq] using this, ?_⟩
   simp [hm]
  ·have hx' : (if h : ∃ j : Nat, L1[j]? = some x then θ' h.choose else θ x) = some v := hx
   rw [dif_neg hex] at hx'
   obtain ⟨h1, h2⟩ := hs.dom x v hx'
   exact ⟨Nat.lt_of_lt_of_le h1 (Nat.le_of_ble_eq_true hnx), fun h => h2 (List.mem_filter.1 h).1⟩
 ·intro k hk
  exact Nat.lt_of_lt_of_le (hs.flt k (List.mem_filter.1 hk).1) (Nat.le_of_ble_eq_true hnx)
 ·intro x v hx
  by_cases hex : ∃ j : Nat, L1[j]? = some x
  ·obtain ⟨j, hj⟩ := hex
   rw [hθj j x hj] at hx
   exact hpre.one j v hx
  ·have hx' : (if h : ∃ j : Nat, L1[j]? = some x then θ' h.choose else θ x) = some v := hx
   rw [dif_neg hex] at hx'
   exact hs.one x v hx'
 ·intro g hg; exact hO2 g (hO2' g hg)
 ·exact ⟨he.os.trans hs.ext.os, he.tape.trans hs.ext.tape, he.output.trans hs.ext.output, Nat.le_trans hs.ext.size he.size, fun b hb hL =>
   (he.block b (Nat.lt_of_lt_of_le hb hs.ext.size) (fun h => by have := (hB b h).2.2.1 hL; omega)).trans (hs.ext.block b hb hL)⟩
 ·intro g hX
  exact .inl ⟨hs.xo g hX, fun h => (hB g h).2.2.2.1 hX⟩
 ·intro d hd
  obtain ⟨D, rfl, hD, hOD, h0⟩ := hs.marks d hd
  have hnB : ¬ B D := fun h => by obtain ⟨_, _, _, _, _, o, h1, h2⟩ := hB D h; rw [hD] at h1; cases h1; cases h2
  have hlt : D < w.heap.size := hs.olt D hOD
  exact ⟨D, rfl, by rw [he.block D hlt hnB]; exact hD, .inl ⟨hOD, hnB⟩, h0⟩
 ·intro g hg hlt
  rcases hO2O g hg with h | h
  ·exact hs.oc g h hlt
  ·have := hs.ext.size; omega
 ·refine c.Jst hs.jn ⟨he.os, he.tape, he.output, he.size, fun b hb hn => he.block b hb (fun h => hn.elim (fun h1 => h1 (.inr (.inl (hB b h).2.2.2.2.1))) (fun h1 => h1 (hB b h).1)), hO2O, fun g h1 h2 => .inl ⟨h1, fun h => h2 (.inr (.inl (hB g h).2.2.2.2.1))⟩, fun g hg => hO2 g (hO2' g hg), fun g hI => ?_⟩
  rcases hI with hI | ⟨x, b, v, h1, h2, h3⟩ | hI
  ·exact .inl (.inl hI)
  ·rcases hget x b h1 with ⟨j, b', rfl, h4, rfl⟩ | ⟨h4, h5⟩
   ·obtain ⟨v1, k1, _, _⟩ := hpre.own j b' h4
    have e1 := hθ1 j v1 k1
    rw [h2] at e1; cases e1
    rcases hnew g ⟨j, b', v, h4, k1, h3⟩ with h6 | h6
    ·exact .inl (.inr (.inl (hB g h6).2.2.2.2.1))
    ·exact .inr h6
   ·obtain ⟨v1, k1, _, _⟩ := hs.hp x b h4
    have e1 := hθ _ _ k1
    rw [h2] at e1; cases e1
    exact .inl (.inr (.inl ⟨x, b, v, h4, k1, h3⟩))
  ·exact .inl (.inr (.inr hI))
theorem op_callW {fo : Operand} {xs : List Operand} {ts : Array TypeId} {f : Nat} {fa : AV} {asx caps args : List AV} {hp hp' : List (Nat × Option Blk)} {n n' : Nat} {kb : List (Nat × Nat)} {rs : List AV} (L0 L1 drop : List Nat) (nx : Nat) (ho : o.op = .call { callee := .value fo, args := xs.toArray, argTypes := ts }) (hf : ev s fo = some fa) (hx : evl s xs = some asx)
  (hfa : capsOf fa = some (f, caps)) (hcat : asx ++ caps = AV.mapL (fun i => L0.getD i s.next) args) (hB : callB P f = true) (h : FnW G P f args hp n kb rs hp' n') (hn0 : L0.length = n) (hnd0 : L0.Nodup) (hH : SubH s.hp (fun i => L0.getD i s.next) hp)
  (hn1 : L1.length = n') (hnd1 : L1.Nodup) (hfr : FrL s L0 kb 0 L1) (hk : keysB hp' n' = true) (hdr : dropB hp hp' (fun i => L0.getD i s.next) (fun i => L1.getD i 0) drop = true) (hnx : Nat.ble s.next nx = true) (hnx1 : L1.all (fun x => Nat.blt x nx) = true)
  (hd : o.dst = d) (hn : dOk s d = true) : OpOk ro P c o s ((s.callW hp' L1 drop nx).put d (some ((topW rs).map (fun i => L1.getD i 0)))) := by
 rintro a w ⟨O, θ, hs⟩ K Q hK
 obtain ⟨e1, e2⟩ := evl_ok hs hx
 have hfv := ev_ok hs hf
 have hnone : θ s.next = none := by
  cases h : θ s.next with
  | none => rfl
  | some v => have := (hs.dom _ _ h).1; omega
 have hcaps : ∃ us : Array Value, a.eval fo = .func (.func f) #[] us ∧ us.size = caps.length ∧ ∀ (i : Nat) (x : AV) (u : Value), caps[i]? = some x → us[i]? = some u → RdA w O θ x u := by
  generalize hfe : a.eval fo = fv at hfv
  cases hfv with
  | fn f' caps' us h1 h2 =>
   simp only [capsOf, Option.some.injEq, Prod.mk.injEq] at hfa
   obtain ⟨rfl, rfl⟩ := hfa
   exact ⟨us, rfl, h1, h2⟩
  | pv p _ h1 =>
   cases h1 with
   | fn f' caps' us h1 h2 =>
    simp only [capsOf, Option.some.injEq, Prod.mk.injEq] at hfa
    obtain ⟨rfl, rfl⟩ := hfa
    refine ⟨us, rfl, by simpa using h1, fun i x u hx hu => ?_⟩
    rw [List.getElem?_map, Option.map_eq_some_iff] at hx
    obtain ⟨p, hp, rfl⟩ := hx
    exact .pv _ _ (h2 i p u hp hu)
   | _ => simp [capsOf] at hfa
  | _ => simp [capsOf] at hfa
 obtain ⟨us, hfe, hus, hcr⟩ := hcaps
 refine ⟨fun f _ => trivial, ?_⟩
 have hrun : (execOp a.eval o).run P w = .ok (.enter f ((xs.map a.eval).toArray ++ us)) w := by
  simp [execOp, ho, resolve, Deferred.ofValue, hfe, invoke, callB_spec hB]
 rw [Oper.semAt_plain _ _ _ (by rw [ho]; intro k h; cases h), hrun]
 refine ⟨fun h => by simp [FF, Fence.wide] at h, ?_⟩
 have hlen : asx.length + caps.length = args.length := by
  have := congrArg List.length hcat
  rw [List.length_append, AV.mapL_length] at this
  exact this
 have harg : ∀ (i : Nat) (x : AV) (u : Value), (asx ++ caps)[i]? = some x → ((xs.map a.eval).toArray ++ us)[i]? = some u → RdA w O θ x u := by
  intro i x u hx hu
  rw [List.getElem?_append] at hx
  split at hx
  ·rename_i hi
   rw [Array.getElem?_append_left (by simp; omega)] at hu
   exact e2 i x u hx (by simpa using hu)
  ·rename_i hi
   rw [Array.getElem?_append_right (by simp; omega)] at hu
   refine hcr _ x u hx ?_
   have : (xs.map a.eval).toArray.size = asx.length := by simpa using e1
   rw [this] at hu
   exact hu
 have hlt0 : ∀ i v, θ (L0.getD i s.next) = some v → L0[i]? = some (L0.getD i s.next) := by
  intro i v hv
  rw [List.getD_eq_getElem?_getD] at hv ⊢
  cases h : L0[i]? with
  | none => rw [h] at hv; simp only [Option.getD_none] at hv; rw [hnone] at hv; cases hv
  | some y => rfl
 have hpre : PreW w O (fun i => θ (L0.getD i s.next)) hp n := by
  refine ⟨fun i b hb => ?_, fun i j bi bj vi vj g hi hj hvi hvj hgi hgj => ?_, fun i v hv => ?_, fun i v hv => hs.one _ v hv⟩
  ·obtain ⟨v, h1, h2, h3⟩ := hs.hp _ _ (SubH.spec hH i b (look_mem hb))
   exact ⟨v, h1, h2.ren _ (fun _ _ h => h), fun g hg => ⟨(h3 g hg).1, (h3 g hg).2.1⟩⟩
  ·have := hs.inj _ _ _ _ vi vj g (SubH.spec hH i bi (look_mem hi)) (SubH.spec hH j bj (look_mem hj)) hvi hvj hgi hgj
   have h1 := hlt0 i vi hvi
   have h2 := hlt0 j vj hvj
   rw [this] at h1
   exact nodup_inj hnd0 i j _ h1 h2
  ·have := hlt0 i v hv
   have := (List.getElem?_eq_some_iff.1 this).1
   omega
 have hcall := h w O (fun i => θ (L0.getD i s.next)) ((xs.map a.eval).toArray ++ us) hs.olt (c.JG hs.jn) hpre (by
   have : (xs.map a.eval).toArray.size = asx.length := by simpa using e1
   rw [Array.size_append, this, hus]; exact hlen) (fun i x v hx hv => by
  refine RdA.ren (fun i => L0.getD i s.next) (fun _ _ h => h) (harg i (x.map _) v ?_ hv) x rfl
  rw [hcat, AV.mapL_get, hx]; rfl)
 refine CallsIn.mono (callsIn_wide (n := 0 - 1).2 hcall) ?_
 rintro e w' ⟨v, O', θ', rfl, he, hO1, hO2, hO3, hpre', hnew, hkb, hr⟩
 obtain ⟨O2, θ2, g1, g2, g3⟩ := sim_of_callW hs L0 L1 drop nx hn0 hH hn1 hnd1 hfr hk hdr hnx hnx1 he hO1 hO2 hO3 hpre' hnew hkb
 subst hd
 refine hK _ _ ⟨O2, θ2, g1.put _ _ _ (dOk_lt hn) (dOk_kt hn) ?_⟩
 exact (hr.mono (Nat.le_refl _) (fun b _ hn => ⟨fun h => hn (g2 b h), rfl⟩) (fun _ _ h => h)).mapF _ g3
theorem FnW.nils {P : Program} {f n n' : Nat} {args : List AV} {hp hp' : List (Nat × Option Blk)} {kb : List (Nat × Nat)} {rs : List AV} (i sz : Nat) (hi : args[i]? = some (.pv (.vs sz []))) (h : FnW G P f args hp n kb rs hp' n') : FnW G P f (args.set i (.pv .nils)) hp n kb rs hp' n' := by
 intro w O θ vs h1 hG h2 h3 h4
 refine h w O θ vs h1 hG h2 (by rw [h3, List.length_set]) fun j x v hx hv => ?_
 by_cases hji : j = i
 ·subst hji
  rw [hi] at hx; cases hx
  have hl : j < args.length := (List.getElem?_eq_some_iff.1 hi).1
  have := h4 j (.pv .nils) v (by rw [List.getElem?_set_self hl]) hv
  have h5 := rda_pv this
  cases h5
  exact .pv _ _ (Rd.vs0 sz)
 ·exact h4 j x v (by rw [List.getElem?_set_ne (fun e => hji e.symm)]; exact hx) hv
end
end Go.Abs

/- Short words for the walks; regions that draw their order, walked step by step. -/
namespace Go.Abs
variable {G : List (Nat × List PV)}
open Go.RowKit
abbrev bxv (l : List PV) : List AV := l.map AV.pv
section
variable {ro : Option Nat} {P : Program} {c : Cx G} {Q : Exit → Act → World → Prop} {s : St}
def DrW (ro : Option Nat) (P : Program) (c : Cx G) (Q : Exit → Act → World → Prop) (s : St) (id : Nat) (l : List Oper) (n : Nat) (df : List Deferred) (next ys : Nat) (kt : List Nat) (m0 : Mid) (es : List Eff) (rest : List Oper) (m : Mid) : Prop :=
 (∃ pre, l = pre ++ rest ∧ ∀ rest' es', OpFacts ro P c l n df next ys kt rest' es' → OpFacts ro P c l n df next ys kt (pre ++ rest') (es.reverse ++ es')) → (∀ es', TextOk es' m → TextOk (es.reverse ++ es') m0) →
  runP (fun _ => true) 0 es.reverse m0 = m → AW ro P c (.region id l.toArray true) Q s
theorem runP_snoc (p : Nat → Bool) : ∀ (es : List Eff) (k : Nat) (m : Mid) (e : Eff), (∀ j, p j = true) → runP p k (es ++ [e]) m = e.apply (runP p k es m)
 | [], k, m, e, h => by simp [runP, h]
 | e' :: es, k, m, e, h => by
  simp only [List.cons_append, runP, h, cond_true]
  exact runP_snoc p es (k + 1) _ e h
theorem dr_start {id n next ys : Nat} {kt : List Nat} {df : List Deferred} {l : List Oper} (m0 : Mid) (_hs0 : s = m0.st n df next ys kt) (h : DrW ro P c Q s id l n df next ys kt m0 [] l m0) : AW ro P c (.region id l.toArray true) Q s :=
 h ⟨[], rfl, fun _ _ h => h⟩ (fun _ h => h) rfl
theorem dr_cons {id n next ys : Nat} {kt : List Nat} {df : List Deferred} {l rest : List Oper} {o : Oper} {m0 m : Mid} {es : List Eff} (e : Eff) (hf : ∀ m : Mid, Has e m → StepOk ro P c l o (m.st n df next ys kt) ((e.apply m).st n df next ys kt)) (ht : Has e m)
  (h : DrW ro P c Q s id l n df next ys kt m0 (e :: es) rest (e.apply m)) : DrW ro P c Q s id l n df next ys kt m0 es (o :: rest) m := by
 rintro ⟨pre, h1, h2⟩ h3 h4
 refine h ⟨pre ++ [o], by rw [h1]; simp, fun rest' es' h5 => ?_⟩ (fun es' h5 => ?_) ?_
 ·rw [List.reverse_cons, List.append_assoc, List.append_assoc]
  exact h2 (o :: rest') (e :: es') ⟨hf, h5⟩
 ·rw [List.reverse_cons, List.append_assoc]
  exact h3 (e :: es') ⟨ht, h5⟩
 ·rw [List.reverse_cons, runP_snoc _ _ _ _ _ (fun _ => rfl), h4]
theorem dr_nil {id n next ys : Nat} {kt : List Nat} {df : List Deferred} {l : List Oper} {m0 m : Mid} {es : List Eff} (hm : P.follows .mixedOrders = true) (hs0 : s = m0.st n df next ys kt) (hB : orderB l es.reverse = true) (h : Post c Q .normal (m.st n df next ys kt)) : DrW ro P c Q s id l n df next ys kt m0 es [] m := by
 rintro ⟨pre, h1, h2⟩ h3 h4
 have hF := h2 [] [] trivial
 have hT := h3 [] trivial
 rw [List.append_nil] at h1 hT
 rw [List.append_nil, List.append_nil, ← h1] at hF
 exact aw_drawn es.reverse m0 hm hs0 hF hT hB (by rw [h4]; exact h)
section
variable {id n next ys : Nat} {kt : List Nat} {df : List Deferred} {l rest : List Oper} {o : Oper} {m0 m : Mid} {es : List Eff}
theorem dru {j d : Nat} {want : Bool} (h : DrW ro P c Q s id l n df next ys kt m0 ({ need := [(d, .tup [])], dst := o.dst, val := some (.tup []) } :: es) rest (({ need := [(d, .tup [])], dst := o.dst, val := some (.tup []) } : Eff).apply m))
  (hg : o.guard = some (j, want) := by exact rfl) (hj : ((l[j]?).bind (·.dst)) = some d := by exact rfl) (hn : Nat.blt d n = true := by exact rfl) (hl : look d m.fr = some (.tup []) := by exact rfl) (hk : ktB (m.st n df next ys kt) o.dst = true := by exact rfl) :
  DrW ro P c Q s id l n df next ys kt m0 es (o :: rest) m :=
 dr_cons { need := [(d, .tup [])], dst := o.dst, val := some (.tup []) } (fun m' h => step_off (guard_undef hg hj hn h.1.1) hk (by cases o.dst <;> rfl)) ⟨⟨hl, trivial⟩, trivial, trivial⟩ h
theorem dro_f {j d : Nat} {t : Bool} (ht : t = false) (h : DrW ro P c Q s id l n df next ys kt m0 ({ need := [(d, .pv (.bool t))], dst := o.dst, val := some (.tup []) } :: es) rest (({ need := [(d, .pv (.bool t))], dst := o.dst, val := some (.tup []) } : Eff).apply m))
  (hg : o.guard = some (j, true) := by exact rfl) (hj : ((l[j]?).bind (·.dst)) = some d := by exact rfl) (hn : Nat.blt d n = true := by exact rfl) (hl : look d m.fr = some (.pv (.bool t)) := by exact rfl) (hk : ktB (m.st n df next ys kt) o.dst = true := by exact rfl) :
  DrW ro P c Q s id l n df next ys kt m0 es (o :: rest) m :=
 dr_cons { need := [(d, .pv (.bool t))], dst := o.dst, val := some (.tup []) } (fun m' h => step_off (guard_off hg hj hn h.1.1 ht) hk (by cases o.dst <;> rfl)) ⟨⟨hl, trivial⟩, trivial, trivial⟩ h
theorem drm {t d : Nat} {v : AV} (h : DrW ro P c Q s id l n df next ys kt m0 ({ need := [(t, v)], dst := some d, val := some v } :: es) rest (({ need := [(t, v)], dst := some d, val := some v } : Eff).apply m))
  (hg : o.guard = none := by exact rfl) (ho : o.op = .move (.tmp t) := by exact rfl) (hd : o.dst = some d := by exact rfl) (hl : look t m.fr = some v := by exact rfl) (hk : dOk (m.st n df next ys kt) (some d) = true := by exact rfl) :
  DrW ro P c Q s id l n df next ys kt m0 es (o :: rest) m :=
 dr_cons { need := [(t, v)], dst := some d, val := some v } (fun m' h => step_on (guard_no hg) (op_move ho h.1.1 hd hk) rfl) ⟨⟨hl, trivial⟩, trivial, trivial⟩ h
theorem drpf {t d : Nat} {v : AV} {y z : Operand} {b : Bool} (hb : b = false) (h : DrW ro P c Q s id l n df next ys kt m0 ({ need := [(t, .pv (.bool b))], dst := some d, val := some v } :: es) rest (({ need := [(t, .pv (.bool b))], dst := some d, val := some v } : Eff).apply m))
  (hg : o.guard = none := by exact rfl) (ho : o.op = .pick (.tmp t) y z := by exact rfl) (hd : o.dst = some d := by exact rfl) (hl : look t m.fr = some (.pv (.bool b)) := by exact rfl) (hy : ∀ m' : Mid, ev (m'.st n df next ys kt) z = some v := by exact fun _ => rfl) (hk : dOk (m.st n df next ys kt) (some d) = true := by exact rfl) :
  DrW ro P c Q s id l n df next ys kt m0 es (o :: rest) m :=
 dr_cons { need := [(t, .pv (.bool b))], dst := some d, val := some v } (fun m' h => step_on (guard_no hg) (op_pick_f ho h.1.1 hb (hy m') hd hk) rfl) ⟨⟨hl, trivial⟩, trivial, trivial⟩ h
end
section
variable {all rest : List Oper} {o : Oper} {s' : St}
theorem rgu {j d : Nat} {want : Bool} {d' : Option Nat} (h : RegW ro P c all rest Q (s.put d' (some (.tup [])))) (hg : o.guard = some (j, want) := by exact rfl) (hj : ((all[j]?).bind (·.dst)) = some d := by exact rfl) (hn : Nat.blt d s.n = true := by exact rfl) (hl : look d s.fr = some (.tup []) := by exact rfl) (hd : o.dst = d' := by exact rfl) (hk : ktB s d' = true := by exact rfl) :
  RegW ro P c all (o :: rest) Q s := reg_off (guard_undef hg hj hn hl) hd hk h
theorem rgo_f {j d : Nat} {t : Bool} {d' : Option Nat} (ht : t = false) (h : RegW ro P c all rest Q (s.put d' (some (.tup [])))) (hg : o.guard = some (j, true) := by exact rfl) (hj : ((all[j]?).bind (·.dst)) = some d := by exact rfl) (hn : Nat.blt d s.n = true := by exact rfl) (hl : look d s.fr = some (.pv (.bool t)) := by exact rfl) (hd : o.dst = d' := by exact rfl) (hk : ktB s d' = true := by exact rfl) :
  RegW ro P c all (o :: rest) Q s := reg_off (guard_off hg hj hn hl ht) hd hk h
theorem rgo_t {j d : Nat} {t : Bool} {d' : Option Nat} (ht : t = true) (h : RegW ro P c all rest Q (s.put d' (some (.tup [])))) (hg : o.guard = some (j, false) := by exact rfl) (hj : ((all[j]?).bind (·.dst)) = some d := by exact rfl) (hn : Nat.blt d s.n = true := by exact rfl) (hl : look d s.fr = some (.pv (.bool t)) := by exact rfl) (hd : o.dst = d' := by exact rfl) (hk : ktB s d' = true := by exact rfl) :
  RegW ro P c all (o :: rest) Q s := reg_off (guard_off hg hj hn hl ht) hd hk h
theorem prt {fn : Func} {w0 : World} {O0 : Nat → Prop} {t : Nat} {p : PV} (hr : fn.results = [ResultVar.tmp t].toArray := by exact rfl) (h : look t s.fr = some (.pv p) := by exact rfl) (hc : c = Fn.cx w0 O0 := by exact rfl) : Post c (FnPost P fn w0 O0 [.p p]) .ret s := post_ret hc hr (.cons _ _ _ _ _ (.tmp _ _ h) (.p _) .nil) (.inl rfl)
theorem rgp (ho : OpOk ro P c o s s') (h : RegW ro P c all rest Q s') (hg : o.guard = none := by exact rfl) : RegW ro P c all (o :: rest) Q s := reg_cons (guard_no hg) ho h
theorem rgn {j d : Nat} {want t : Bool} (ht : t = want) (ho : OpOk ro P c o s s') (h : RegW ro P c all rest Q s') (hg : o.guard = some (j, want) := by exact rfl) (hj : ((all[j]?).bind (·.dst)) = some d := by exact rfl) (hn : Nat.blt d s.n = true := by exact rfl) (hl : look d s.fr = some (.pv (.bool t)) := by exact rfl) : RegW ro P c all (o :: rest) Q s :=
 reg_cons (guard_on hg hj hn hl ht) ho h
theorem rmv {x : Operand} {v : AV} {d : Option Nat} (h : RegW ro P c all rest Q (s.put d (some v))) (hg : o.guard = none := by exact rfl) (ho : o.op = .move x := by exact rfl) (hx : ev s x = some v := by exact rfl) (hd : o.dst = d := by exact rfl) (hk : dOk s d = true := by exact rfl) :
  RegW ro P c all (o :: rest) Q s := reg_cons (guard_no hg) (op_move ho hx hd hk) h
theorem ras {x : Operand} {v : AV} {d : Option Nat} (h : RegW ro P c all rest Q (s.put d (some v))) (hg : o.guard = none := by exact rfl) (ho : o.op = .assign x := by exact rfl) (hx : ev s x = some v := by exact rfl) (hd : o.dst = d := by exact rfl) (hk : dOk s d = true := by exact rfl) :
  RegW ro P c all (o :: rest) Q s := reg_cons (guard_no hg) (op_assign ho hx hd hk) h
theorem rpt {x y z : Operand} {b : Bool} {v : AV} {d : Option Nat} (hb : b = true) (h : RegW ro P c all rest Q (s.put d (some v))) (hg : o.guard = none := by exact rfl) (ho : o.op = .pick x y z := by exact rfl) (hx : ev s x = some (.pv (.bool b)) := by exact rfl) (hy : ev s y = some v := by exact rfl) (hd : o.dst = d := by exact rfl) (hk : dOk s d = true := by exact rfl) :
  RegW ro P c all (o :: rest) Q s := reg_cons (guard_no hg) (op_pick_t ho hx hb hy hd hk) h
theorem rpf {x y z : Operand} {b : Bool} {v : AV} {d : Option Nat} (hb : b = false) (h : RegW ro P c all rest Q (s.put d (some v))) (hg : o.guard = none := by exact rfl) (ho : o.op = .pick x y z := by exact rfl) (hx : ev s x = some (.pv (.bool b)) := by exact rfl) (hy : ev s z = some v := by exact rfl) (hd : o.dst = d := by exact rfl) (hk : dOk s d = true := by exact rfl) :
  RegW ro P c all (o :: rest) Q s := reg_cons (guard_no hg) (op_pick_f ho hx hb hy hd hk) h
end
end
end Go.Abs

/- A zero value, written out as a constant, stored. -/
namespace Go.Abs
variable {G : List (Nat × List PV)}
open Go.RowKit
section
variable {ro : Option Nat} {P : Program} {c : Cx G} {s s' : St} {o : Oper} {d : Option Nat}
theorem op_store_zc {T n : Nat} {x : Operand} {us0 : Array Value} {ps : List PV} {id k : Nat} {t : TypeId} {cells : List AV} (ho : o.op = .store T x (.const (.agg us0))) (hx : ev s x = some (.lp id k)) (hz : czs us0.toList ps)
  (hb : look id s.hp = some (.box t cells)) (hT : (oneB P T || aggB P T n) = true) (hn1 : (AV.pv (.agg ps)).cells.length = (bif oneB P T then 1 else n)) (hfit : Nat.ble (k + (AV.pv (.agg ps)).cells.length) cells.length = true) (hd : o.dst = d) (hk : ktB s d = true) :
  OpOk ro P c o s ((s.setBlk id (some (.box t (splice cells k (AV.pv (.agg ps)).cells)))).put d none) :=
 opOk_skip hd (by cases d <;> exact hk) (by rw [ho]; intro k h; cases h) fun a w O θ hs => by
  have h := ev_ok hs hx
  have hv : RdA w O θ (.pv (.agg ps)) (a.eval (.const (.agg us0))) := .pv _ _ (by have h1 := rd_of_reads1 (w := w) (O := O) (czs_reads1 hz); rw [show us0.toList.toArray = us0 by simp] at h1; exact h1)
  generalize ha : a.eval x = u at h
  generalize hb' : a.eval (.const (.agg us0)) = z at hv
  generalize hve : AV.pv (.agg ps) = v at hv hn1 hfit ⊢
  have hc : v.cellish = true := by rw [← hve]; rfl
  have hsz : ∀ w, (sizeOf T).run P w = .ok v.cells.length w := by
   rw [hn1]
   cases e : oneB P T with
   | true => exact (oneB_spec e).2.1
   | false => rw [e] at hT; exact (aggB_spec (by simpa using hT)).2.1
  cases h with
  | lp _ _ g h =>
   obtain ⟨v', hv', ⟨g', us, he, h1, h2, h3⟩, _⟩ := hs.hp id _ hb
   rw [h] at hv'; cases hv'
   cases he
   obtain ⟨c1, c2, c3⟩ := AV.cells_ok hv hc hs.one
   have hfit' : k + v.cells.length ≤ us.size := by rw [h2]; exact Nat.le_of_ble_eq_true hfit
   have hrun := run_storeAt (P := P) (T := T) hsz w g k z us t c1 c2 h1 hfit'
   refine ⟨w.setRow g (splice us.toList k z.cells.toList).toArray, O, θ, by simp [execOp, ho, ha, hb', hrun], ?_⟩
   have hg := setRow_grown w g (splice us.toList k z.cells.toList).toArray
   have hO : ∀ b, b < w.heap.size → ¬ O b → ¬ O b ∧ (w.setRow g (splice us.toList k z.cells.toList).toArray).heap[b]? = w.heap[b]? := by
    intro b hb1 hb2
    refine ⟨hb2, hg.block b hb1 (fun e => hb2 ?_)⟩
    obtain ⟨v2, hv2, _, hO2⟩ := hs.hp id _ hb
    rw [h] at hv2; cases hv2
    exact (hO2 b (by simpa [blkOf] using e.symm)).1
   have hzl : z.cells.toList.length = v.cells.length := by simpa using c1
   refine hs.upd hb h hg ⟨g, _, rfl, setRow_at w g us _ t (0, 0) h1, ?_, ?_⟩
   ·simp only [List.size_toArray]
    rw [splice_length _ _ _ (by simpa [hzl] using hfit'), splice_length _ _ _ (Nat.le_of_ble_eq_true hfit)]
    simpa using h2
   ·intro j y u hy hu
    rw [splice_get _ _ _ (Nat.le_of_ble_eq_true hfit)] at hy
    rw [List.getElem?_toArray, splice_get _ _ _ (by simpa [hzl] using hfit'), hzl] at hu
    split at hy
    ·rename_i hj; rw [if_pos hj] at hu
     rw [Array.getElem?_toList] at hu
     exact ⟨(c3 _ y u hy hu).mono hg.size hO (fun _ _ e => e), c2 u (Array.mem_toList_iff.2 (Array.mem_of_getElem? hu))⟩
    ·rename_i hj; rw [if_neg hj] at hu
     rw [Array.getElem?_toList] at hu
     exact ⟨(h3 j y u hy hu).1.mono hg.size hO (fun _ _ e => e), (h3 j y u hy hu).2⟩
end
end Go.Abs

/- Bits and quotients of integers; texts and bytes. -/
namespace Go.Abs
variable {G : List (Nat × List PV)}
open Go.RowKit
section
variable {ro : Option Nat} {P : Program} {c : Cx G} {s s' : St} {o : Oper} {d : Option Nat}
end
end Go.Abs

/- Package variables: an array of known elements. -/
namespace Go.Abs
variable {G : List (Nat × List PV)}
open Go.RowKit
section
variable {ro : Option Nat} {P : Program} {c : Cx G} {s s' : St} {o : Oper} {d : Option Nat}
end
end Go.Abs

/- An array of a box, as a slice that is copied into. -/
namespace Go.Abs
variable {G : List (Nat × List PV)}
open Go.RowKit
section
variable {ro : Option Nat} {P : Program} {c : Cx G} {s s' : St} {o : Oper} {d : Option Nat}
theorem op_slice_aw {T n e sz id off : Nat} {x : Operand} (ho : o.op = .slice T x none none none) (hx : ev s x = some (.lp id off)) (ht : arrayB P T n e sz = true) (hd : o.dst = d) (hn : dOk s d = true) :
  OpOk ro P c o s (s.put d (some (.aw id off n))) :=
 opOk_value hd hn (by rw [ho]; intro k h; cases h) fun a w O θ hs => by
  obtain ⟨i, t1, t2, t3⟩ := arrayB_spec ht
  have h := ev_ok hs hx
  generalize hv : a.eval x = v at h
  cases h with
  | lp _ _ g h =>
   refine ⟨.slice (some ⟨g, off, none⟩) n n, ?_, .aw _ _ _ g h⟩
   by_cases h0 : n = 0
   ·subst h0
    simp [execOp, ho, hv, Instr.sliceAt, run_underlying t1, Instr.sureAddr, Instr.sliceBounds, sizeOf, typeInfo, t2, t3, Addr.add_lit]
   ·simp [execOp, ho, hv, Instr.sliceAt, run_underlying t1, Instr.sureAddr, Instr.sliceBounds, sizeOf, typeInfo, t2, t3, Addr.add_lit]
theorem op_copy_aw {T T2 e sz n : Nat} {x y : Operand} {id off : Nat} {t : TypeId} {cells cells' : List AV} {news : List (List PV)} (ho : o.op = .call { callee := .builtin .copy, args := #[x, y], argTypes := #[T, T2] }) (hx : ev s x = some (.aw id off n)) (hb : look id s.hp = some (.box t cells))
  (hy : ev s y = some (.pv (.vs sz news))) (ht : sliceB P T e sz = true) (hfit : Nat.ble (off + n * sz) cells.length = true) (hc : splice cells off (((news.take n).flatten).map .pv) = cells') (hd : o.dst = d) (hn : dOk s d = true) :
  OpOk ro P c o s ((s.setBlk id (some (.box t cells'))).put d (some (.pv (.int .i64 (Nat.min news.length n))))) :=
 opOk_mem (s1 := s.setBlk id (some (.box t cells'))) hd hn (by rw [ho]; intro k h; cases h) fun a w O θ hs => by
  subst hc
  obtain ⟨i, h1, h2, h3⟩ := sliceB_spec ht
  have h := ev_ok hs hx
  have hv := ev_pv hs hy
  generalize ha : a.eval x = u at h
  generalize hay : a.eval y = v at hv
  cases h with
  | aw _ _ _ g h =>
   obtain ⟨v', hv', ⟨g', us, he, b1, b2, b3⟩, hO2⟩ := hs.hp id _ hb
   rw [h] at hv'; cases hv'
   cases he
   have hfit' : off + n * sz ≤ us.size := by rw [b2]; exact Nat.le_of_ble_eq_true hfit
   have idle : Nat.min news.length n = 0 → (Builtin.lenOf v).run P w = .ok news.length w → (Builtin.firstCells sz 0 v).run P w = .ok #[] w →
     ∃ v w' O' θ', (execOp a.eval o).run P w = .ok (.value v) w' ∧ SimAt c (s.setBlk id (some (.box t (splice cells off (((news.take n).flatten).map .pv))))) O' θ' a w' ∧ RdA w' O' θ' (.pv (.int .i64 (Nat.min news.length n))) v := by
    intro h0 h4 h5
    have hr : news.take n = [] := by
     have := List.length_take (i := n) (l := news)
     exact List.eq_nil_of_length_eq_zero (by rw [this, Nat.min_comm]; exact h0)
    refine ⟨goInt 0, w, O, θ, ?_, ?_, by rw [h0]; exact .pv _ _ (.int _ _)⟩
    ·simp [execOp, ho, resolve, invoke, builtin, ha, hay, Builtin.copy_, run_underlying h1, h4, h0, sizeOf, typeInfo, h2, h3, h5, storeCells]
    ·rw [hr]
     have : splice cells off (([] : List (List PV)).flatten.map AV.pv) = cells := by simp [splice]
     rw [this]
     exact hs.upd hb h (World.grownBy.refl w _) ⟨g, us, rfl, b1, b2, b3⟩
   rcases rd_vs hv with ⟨ad, cap0, rfl, rfl, _, _⟩ | ⟨b, off2, cap, f, rfl, hr⟩
   ·exact idle (by simp) (by simp [Builtin.lenOf]) (by cases ad <;> simp [Builtin.firstCells, loadCells, loadCellsFrom])
   ·obtain ⟨vs, q1, q2, q3, q4⟩ := rows_of_vs hr
    by_cases h0 : Nat.min news.length n = 0
    ·exact idle h0 (by simp [Builtin.lenOf]) (by simp [Builtin.firstCells, loadCells, loadCellsFrom])
    ·have hle : Nat.min news.length n * sz ≤ news.length * sz := Nat.mul_le_mul_right _ (Nat.min_le_left _ _)
     have hln : Nat.min news.length n * sz ≤ n * sz := Nat.mul_le_mul_right _ (Nat.min_le_right _ _)
     have hvl : (vs.take (Nat.min news.length n * sz)).length = Nat.min news.length n * sz := by rw [List.length_take, q1.len, Nat.min_eq_left hle]
     have hfl : ((news.take n).flatten).length = Nat.min news.length n * sz := by
      rw [flatten_len (sz := sz) (fun row hr => q1.hz row (List.mem_of_mem_take hr)), List.length_take, Nat.min_comm]
     have hpos : 0 < sz ∨ sz = 0 := by omega
     -- each of the cells
     have hget : ∀ (k : Nat) (p : PV), ((news.take n).flatten)[k]? = some p → ∃ u, vs[k]? = some u ∧ Rd w O p u ∧ p.one = true := by
      intro k p hp
      have hk : k < Nat.min news.length n * sz := by rw [← hfl]; exact (List.getElem?_eq_some_iff.1 hp).1
      have hpos : 0 < sz := by
       rcases Nat.eq_zero_or_pos sz with h | h
       ·subst h; simp at hk
       ·exact h
      have hq' : k / sz < Nat.min news.length n := Nat.div_lt_of_lt_mul (by rw [Nat.mul_comm]; exact hk)
      have hm : k % sz < sz := Nat.mod_lt _ hpos
      have e1 : k / sz * sz + k % sz = k := by rw [Nat.mul_comm]; exact Nat.div_add_mod k sz
      have hlt : k / sz < news.length := Nat.lt_of_lt_of_le hq' (Nat.min_le_left _ _)
      have hltn : k / sz < n := Nat.lt_of_lt_of_le hq' (Nat.min_le_right _ _)
      have er : news[k / sz]? = some news[k / sz] := List.getElem?_eq_getElem hlt
      have hzr : (news[k / sz]).length = sz := q1.hz _ (List.mem_of_getElem? er)
      have er2 : (news.take n)[k / sz]? = some news[k / sz] := by rw [List.getElem?_take, if_pos hltn]; exact er
      have hp2 : (news[k / sz])[k % sz]? = some p := by
       rw [← flatten_get (fun row hr => q1.hz row (List.mem_of_mem_take hr)) _ _ _ er2 hm, e1]; exact hp
      have hku : k < vs.length := by rw [q1.len]; omega
      exact ⟨vs[k], List.getElem?_eq_getElem hku, q1.rd _ _ _ p _ er hp2 (by rw [e1]; exact List.getElem?_eq_getElem hku), q1.one _ (List.mem_of_getElem? er) p (List.mem_of_getElem? hp2)⟩
     have hf := run_firstCells_some (P := P) w sz (Nat.min news.length n) ⟨b, off2, none⟩ news.length cap _ hvl (fun j u hu => by
      rw [Addr.add_lit]
      rw [List.getElem?_take] at hu
      split at hu
      ·exact q2 j u hu
      ·cases hu)
     have h1c : ∀ u ∈ vs.take (Nat.min news.length n * sz), u.oneCell' = true := by
      intro u hu
      obtain ⟨k, hk⟩ := List.getElem?_of_mem hu
      have hkl : k < Nat.min news.length n * sz := by have := (List.getElem?_eq_some_iff.1 hk).1; omega
      have hkf : k < ((news.take n).flatten).length := by rw [hfl]; exact hkl
      obtain ⟨u2, g1, g2, g3⟩ := hget k _ (List.getElem?_eq_getElem hkf)
      rw [List.getElem?_take, if_pos hkl, g1] at hk
      cases hk
      exact g2.one_ g3
     have hst := run_storeCells_at P g off t (vs.take (Nat.min news.length n * sz)) 0 us w b1 (by rw [hvl]; omega) h1c
     simp only [Nat.add_zero, hvl] at hst
     have hnew : (us.toList.take off ++ ((vs.take (Nat.min news.length n * sz)) ++ us.toList.drop (off + Nat.min news.length n * sz))).toArray = (splice us.toList off (vs.take (Nat.min news.length n * sz))).toArray := by unfold splice; rw [hvl]
     have hgr := setRow_grown w g (splice us.toList off (vs.take (Nat.min news.length n * sz))).toArray
     have hO : ∀ b, b < w.heap.size → ¬ O b → ¬ O b ∧ (w.setRow g (splice us.toList off (vs.take (Nat.min news.length n * sz))).toArray).heap[b]? = w.heap[b]? := fun b hb1 hb2 =>
      ⟨hb2, hgr.block b hb1 (fun e => hb2 (hO2 b (by simpa [blkOf] using e.symm)).1)⟩
     have hpl : (((news.take n).flatten).map AV.pv).length = Nat.min news.length n * sz := by rw [List.length_map, hfl]
     have hfc : off + (((news.take n).flatten).map AV.pv).length ≤ cells.length := by rw [hpl]; have := Nat.le_of_ble_eq_true hfit; omega
     refine ⟨goInt (Nat.min news.length n), _, O, θ, ?_, hs.upd hb h hgr ⟨g, _, rfl, setRow_at w g us _ t (0, 0) b1, ?_, ?_⟩, .pv _ _ (.int _ _)⟩
     ·simp only [execOp, ho, resolve, invoke, builtin, List.map_toArray, List.map_cons, List.map_nil, ha, hay, Sem.run_bind, Sem.run_pure, Result.andThen_ok, Builtin.copy_]
      simp [run_underlying h1, Builtin.lenOf, sizeOf, typeInfo, h2, h3, hf, hst, splice, hvl]
     ·simp only [List.size_toArray]
      rw [splice_length _ _ _ (by rw [hvl]; simp; omega), splice_length _ _ _ hfc]
      simpa using b2
     ·intro j y u hy hu
      rw [splice_get _ _ _ hfc] at hy
      rw [List.getElem?_toArray, splice_get _ _ _ (by rw [hvl]; simp; omega), hvl] at hu
      rw [hpl] at hy
      split at hy
      ·rename_i hj; rw [if_pos hj] at hu
       rw [List.getElem?_map, Option.map_eq_some_iff] at hy
       obtain ⟨p, hp, rfl⟩ := hy
       obtain ⟨u2, g1, g2, g3⟩ := hget _ p hp
       rw [List.getElem?_take, if_pos (by omega), g1] at hu
       cases hu
       exact ⟨.pv _ _ (g2.mono hgr.size hO), g2.one_ g3⟩
      ·rename_i hj; rw [if_neg hj] at hu
       rw [Array.getElem?_toList] at hu
       exact ⟨(b3 j y u hy hu).1.mono hgr.size hO (fun _ _ e => e), (b3 j y u hy hu).2⟩
end
def A2.cp {α : Type} (x : A2 α) (l : List α) : A2 α := ⟨(l[0]?).getD x.a0, (l[1]?).getD x.a1⟩
def A3.cp {α : Type} (x : A3 α) (l : List α) : A3 α := ⟨(l[0]?).getD x.a0, (l[1]?).getD x.a1, (l[2]?).getD x.a2⟩
def A4.cp {α : Type} (x : A4 α) (l : List α) : A4 α := ⟨(l[0]?).getD x.a0, (l[1]?).getD x.a1, (l[2]?).getD x.a2, (l[3]?).getD x.a3⟩
end Go.Abs

/- Functions of Go's library, by the contracts of the kit's shelf. -/
namespace Go.Abs
variable {G : List (Nat × List PV)}
open Go.RowKit
end Go.Abs

/- A row of the call's own, cut short; zeros behind nil; what a nil slice has room for. -/
namespace Go.Abs
variable {G : List (Nat × List PV)}
open Go.RowKit
section
variable {ro : Option Nat} {P : Program} {c : Cx G} {s s' : St} {o : Oper} {d : Option Nat}
theorem op_slice_own (kk : Nat) (hk : freshB s kk = true) {T e sz : Nat} {x y : Operand} {k : IntKind} {n : Int} {id : Nat} {rows rows' : List (List PV)} (ho : o.op = .slice T x none (some y) none) (hx : ev s x = some (.ls id)) (hb : look id s.hp = some (.row e sz rows)) (hy : ev s y = some (.pv (.int k n)))
  (ht : sliceB P T e sz = true) (hr : cutL rows 0 n = some rows') (hd : o.dst = d) (hn : dOk s d = true) : OpOk ro P c o s ((s.addAt kk (some id) (.row e sz rows')).put d (some (.ls kk))) :=
 opOk_mem (s1 := s.addAt kk (some id) (.row e sz rows')) hd hn (by rw [ho]; intro k h; cases h) fun a w O θ hs => by
  obtain ⟨q0, q1, q2, rfl⟩ := cutL_spec hr
  obtain ⟨i, h1, h2, h3⟩ := sliceB_spec ht
  have h := ev_ok hs hx
  have hi := ev_int hs hy
  generalize ha : a.eval x = u at h
  cases h with
  | ls _ _ h =>
   obtain ⟨v', hv', ⟨us, hown, hrd⟩, hO2⟩ := hs.hp id _ hb
   rw [h] at hv'; cases hv'
   have hl : ((rows.take n.toNat).drop (0 : Int).toNat).length = n.toNat := by simp; omega
   have hrw : (rows.take n.toNat).drop (0 : Int).toNat = rows.take n.toNat := by simp
   have hrd2 : RowsRd w O sz (rows.take n.toNat) (us.take (n.toNat * sz)) := by
    refine ⟨?_, fun row hr => hrd.hz row (List.mem_of_mem_take hr), fun row hr => hrd.one row (List.mem_of_mem_take hr), fun i j row x u h1 h2 h3 => ?_⟩
    ·have : n.toNat * sz ≤ rows.length * sz := Nat.mul_le_mul_right _ (by omega)
     rw [List.length_take, List.length_take, hrd.len, Nat.min_eq_left this, Nat.min_eq_left (by omega)]
    ·rw [List.getElem?_take] at h1 h3
     split at h1
     ·split at h3
      ·exact hrd.rd i j row x u h1 h2 h3
      ·cases h3
     ·cases h1
   have key : ∃ v, (execOp a.eval o).run P w = .ok (.value v) w ∧ blkOf v = blkOf u ∧ v.oneCell' = true ∧ ownsW w e sz v n.toNat (us.take (n.toNat * sz)) := by
    have htl : (us.take (n.toNat * sz)).length = n.toNat * sz := by
     have : n.toNat * sz ≤ rows.length * sz := Nat.mul_le_mul_right _ (by omega)
     rw [List.length_take, hown.1, Nat.min_eq_left this]
    rcases hown.2 with ⟨rfl, h6⟩ | ⟨g, cap, cur, rfl, _, hg, hnc, hcm, hcs, htk⟩
    ·have hn0 : n = 0 := by omega
     subst hn0
     have b1 := run_sliceBound (P := P) (w := w) (k := k) (n := 0) (y := 0) (code := .sliceAcap) (by omega) (by omega)
     refine ⟨.slice none 0 0, ?_, rfl, rfl, ?_⟩
     ·simp [execOp, ho, ha, hi, Instr.sliceAt, run_underlying h1, Instr.slice, Instr.sliceBounds, sizeOf, typeInfo, h2, h3, b1]
     ·have : us.take ((0 : Int).toNat * sz) = [] := by simp
      rw [this]
      exact ownsW_nil w e sz
    ·have b1 := run_sliceBound (P := P) (w := w) (k := k) (n := n) (y := cap) (code := .sliceAcap) (by omega) (by omega)
     refine ⟨.slice (some ⟨g, 0, none⟩) n.toNat cap, ?_, rfl, rfl, htl, .inr ⟨g, cap, cur, rfl, trivial, hg, by omega, hcm, hcs, ?_⟩⟩
     ·by_cases hc0 : cap = 0
      ·subst hc0
       simp [execOp, ho, ha, hi, Instr.sliceAt, run_underlying h1, Instr.slice, Instr.sliceBounds, sizeOf, typeInfo, h2, h3, b1, Addr.add_lit]
      ·simp [execOp, ho, ha, hi, Instr.sliceAt, run_underlying h1, Instr.slice, Instr.sliceBounds, sizeOf, typeInfo, h2, h3, b1, Addr.add_lit]
     ·rw [← htk, List.take_take, Nat.min_eq_left (Nat.mul_le_mul_right _ (by omega))]
   obtain ⟨v, hrun, hbv, hone, hown2⟩ := key
   have hg := World.grownBy.refl w (blkOf u)
   obtain ⟨O', θ', h4, h5, h6, h7⟩ := hs.addAt (w' := w) (row := blkOf u) (v := v) (b := .row e sz ((rows.take n.toNat).drop (0 : Int).toNat)) kk hk (some id)
    (fun A' e => by cases e; exact ⟨_, _, hb, h, rfl⟩) (fun e => by cases e) hg
    (fun g hg' => by rw [hbv] at hg'; exact ⟨(hO2 g hg').2.1, .inr hg'⟩) hone (fun O' θ' hO' hθ' => by
     rw [hrw]
     refine ⟨us.take (n.toNat * sz), by rw [← hrw, hl]; exact hown2, hrd2.mono (Nat.le_refl _) fun b hb1 hb2 => ⟨fun hh => ?_, rfl⟩⟩
     rcases (hO' b).1 hh with hh | hh
     ·exact hb2 hh
     ·rw [hbv] at hh; exact hb2 (hO2 b hh).1)
   exact ⟨v, w, O', θ', hrun, h7, .ls _ _ h6⟩
theorem op_append_zeros (kk : Nat) (hk : freshB s kk = true) {T T2 e sz bytes : Nat} {x y : Operand} {k k2 : IntKind} {n : Int} {z : Value} {zs : List PV} {rows : List (List PV)} (ho : o.op = .call { callee := .builtin .append, args := #[x, y], argTypes := #[T, T2] }) (hx : ev s x = some (.pv .nils)) (hy : ev s y = some (.pv (.int k n))) (h0 : 0 < n)
  (hroom : n * bytes ≤ 140737488355328) (ht : sliceB P T e sz = true) (ht2 : P.underlying T2 = some (.int k2)) (hby : elemB P e bytes = true) (hby0 : Nat.blt 0 bytes = true) (hz : zeroIs P e z) (hzs : czs z.cells.toList zs) (hzl : zs.length = sz) (hsz : Nat.blt 0 sz = true) (hrows : List.replicate n.toNat zs = rows)
  (hd : o.dst = d) (hn : dOk s d = true) : OpOk ro P c o s ((s.addAt kk none (.row e sz rows)).put d (some (.ls kk))) :=
 opOk_mem (s1 := s.addAt kk none (.row e sz rows)) hd hn (by rw [ho]; intro k h; cases h) fun a w O θ hs => by
  subst hrows
  obtain ⟨i, h1, h2, h3⟩ := sliceB_spec ht
  have hb2 : i.bytes = bytes := by simpa [elemB, h2] using hby
  have hb1 : 0 < bytes := by simpa [Nat.blt_eq] using hby0
  have hsz' : 0 < sz := by simpa [Nat.blt_eq] using hsz
  obtain ⟨_, i', hi', hz'⟩ := zeroIs_spec hz w
  rw [h2] at hi'; cases hi'
  obtain ⟨m, rfl⟩ : ∃ m : Nat, n = (m : Int) := ⟨n.toNat, by omega⟩
  have hm0 : 0 < m := by omega
  have hmm : (m : Int) * 1 ≤ (m : Int) * bytes := Int.mul_le_mul_of_nonneg_left (by omega) (by omega)
  have hmb : m * bytes ≤ 140737488355328 := by
   have h : ((m * bytes : Nat) : Int) ≤ 140737488355328 := by rw [Int.natCast_mul]; exact hroom
   omega
  have hvx : a.eval x = .slice none 0 0 := by
   have := ev_pv hs hx
   generalize a.eval x = v at this
   cases this; rfl
  have hrun := Lib.run_append_nil_zeros (P := P) w T T2 o.type e i z k k2 h1 ht2 h2 hz' m hm0 (by omega) (by omega) (by rw [hb2]; omega)
  have hge := grownCap_ge w m 0 e
  have hcm := grownCap_le_maxLen w m 0 e (by unfold maxLen; omega)
  have hzr := czs_reads1 (w := w) (O := O) hzs
  have hzc : z.cells.size = sz := by have := hzr.1; simp at this; omega
  have hzcs : ∀ k, (Builtin.zeroCells z.cells k).size = k * sz := fun k => by simp [Builtin.zeroCells, hzc]
  have hget : ∀ k, k < m * sz → (Builtin.zeroCells z.cells m)[k]? = z.cells[k % sz]? := fun k hk => by
   rw [Array.getElem?_eq_getElem (by rw [hzcs]; exact hk), Array.getElem?_eq_getElem (by rw [hzc]; exact Nat.mod_lt _ hsz')]
   simp [Builtin.zeroCells, hzc, Nat.mod_lt _ hsz']
  have hg : w.grownBy (w.drew.alloc (.cells (Builtin.zeroCells z.cells m ++ Builtin.zeroCells z.cells (grownCap w m 0 e - m)) e)) none := ⟨rfl, rfl, rfl, by simp, fun k hk _ => heapOld w.drew _ k hk⟩
  have hzf : ((Builtin.zeroCells z.cells m).toList).length = m * sz := by rw [Array.length_toList, hzcs]
  obtain ⟨O', θ', h4, h5, h6, h7⟩ := hs.addAt (w' := w.drew.alloc (.cells (Builtin.zeroCells z.cells m ++ Builtin.zeroCells z.cells (grownCap w m 0 e - m)) e)) (row := none) (v := .slice (some ⟨w.heap.size, 0, none⟩) m (grownCap w m 0 e)) (b := .row e sz (List.replicate (m : Int).toNat zs)) kk hk none (by simp) (fun _ => rfl) hg
   (fun g hg => by simp [blkOf] at hg; subst hg; simp) rfl (fun O' θ' hO' _ => by
    refine ⟨(Builtin.zeroCells z.cells m).toList, ⟨by rw [hzf]; simp, .inr ⟨w.heap.size, grownCap w m 0 e, _, by simp, trivial, heap_alloc_new w.drew _, by simp; exact hge, hcm, ?_, ?_⟩⟩, ?_⟩
    ·simp only [Array.size_append, hzcs, ← Nat.add_mul]
     exact Nat.mul_le_mul_right _ (by omega)
    ·simp only [Array.toList_append, List.length_replicate, Int.toNat_natCast]
     rw [← hzf]
     exact List.take_left
    ·refine ⟨by rw [hzf]; simp, fun row hr => by rw [List.eq_of_mem_replicate hr]; exact hzl, fun row hr x hx => by rw [List.eq_of_mem_replicate hr] at hx; exact hzr.2.1 x hx, fun i' j row x u hr hx hu => ?_⟩
     rw [List.getElem?_replicate] at hr
     split at hr
     ·rename_i hi'
      cases hr
      have hj : j < sz := by have := (List.getElem?_eq_some_iff.1 hx).1; omega
      rw [Array.getElem?_toList, hget _ (index_lt (by simpa using hi') hj), show (i' * sz + j) % sz = j by rw [Nat.mul_comm, Nat.mul_add_mod, Nat.mod_eq_of_lt hj]] at hu
      refine (hzr.2.2 j x u hx (by simpa using hu)).mono hg.size (fun b hb hn => ⟨fun hh => ?_, hg.block b hb (by simp)⟩)
      rcases (hO' b).1 hh with h | h
      ·exact hn h
      ·simp [blkOf] at h; omega
     ·cases hr)
  refine ⟨_, _, O', θ', ?_, h7, .ls _ _ h6⟩
  simp [execOp, ho, resolve, invoke, builtin, hvx, ev_int hs hy, hrun]
theorem op_cap_nils {T e sz : Nat} {x : Operand} (ho : o.op = .call { callee := .builtin .cap, args := #[x], argTypes := #[T] }) (hx : ev s x = some (.pv .nils)) (ht : sliceB P T e sz = true) (hd : o.dst = d) (hn : dOk s d = true) : OpOk ro P c o s (s.put d (some (.pv (.int .i64 0)))) :=
 opOk_value hd hn (by rw [ho]; intro k h; cases h) fun a w O θ hs => by
  have hvx : a.eval x = .slice none 0 0 := by
   have := ev_pv hs hx
   generalize a.eval x = v at this
   cases this; rfl
  obtain ⟨i, h1, h2, h3⟩ := sliceB_spec ht
  exact ⟨goInt 0, by simp [execOp, ho, resolve, invoke, builtin, hvx, Builtin.cap_, run_underlying h1], .pv _ _ (.int _ _)⟩
theorem op_slice_nils {T e sz : Nat} {x y : Operand} {k : IntKind} (ho : o.op = .slice T x none (some y) none) (hx : ev s x = some (.pv .nils)) (hy : ev s y = some (.pv (.int k 0))) (ht : sliceB P T e sz = true) (hd : o.dst = d) (hn : dOk s d = true) : OpOk ro P c o s (s.put d (some (.pv .nils))) :=
 opOk_value hd hn (by rw [ho]; intro k h; cases h) fun a w O θ hs => by
  have hvx : a.eval x = .slice none 0 0 := by
   have := ev_pv hs hx
   generalize a.eval x = v at this
   cases this; rfl
  obtain ⟨i, h1, h2, h3⟩ := sliceB_spec ht
  have b1 := run_sliceBound (P := P) (w := w) (k := k) (n := 0) (y := 0) (code := .sliceAcap) (by omega) (by omega)
  exact ⟨.slice none 0 0, by simp [execOp, ho, hvx, ev_int hs hy, Instr.sliceAt, run_underlying h1, Instr.slice, Instr.sliceBounds, sizeOf, typeInfo, h2, h3, b1], .pv _ _ .nils⟩
end
end Go.Abs
namespace Go.Abs
def zerOk (n : Int) (bytes : Nat) : Option Unit := if 0 < n ∧ n * bytes ≤ 140737488355328 then some () else none
theorem zerOk_spec {n : Int} {bytes : Nat} {u : Unit} (h : zerOk n bytes = some u) : 0 < n ∧ n * bytes ≤ 140737488355328 := by
 unfold zerOk at h
 split at h
 ·assumption
 ·cases h
theorem cp4 {α : Type} (p : List α → Prop) (l : List α) (h : p [] ∧ (∀ a, p [a]) ∧ (∀ a b, p [a, b]) ∧ (∀ a b c, p [a, b, c]) ∧ ∀ a b c d r, p (a :: b :: c :: d :: r)) : p l := by
 match l with
 | [] => exact h.1
 | [a] => exact h.2.1 a
 | [a, b] => exact h.2.2.1 a b
 | [a, b, c] => exact h.2.2.2.1 a b c
 | a :: b :: c :: d :: r => exact h.2.2.2.2 a b c d r
end Go.Abs
namespace Go.Abs
variable {G : List (Nat × List PV)}
open Go.RowKit
section
variable {ro : Option Nat} {P : Program} {c : Cx G} {s s' : St} {o : Oper} {d : Option Nat}
end
end Go.Abs
namespace Go.Abs
end Go.Abs

/- A box that holds a function which holds that box: a function that calls itself by its own variable. -/
namespace Go.Abs
variable {G : List (Nat × List PV)}
open Go.RowKit
end Go.Abs

/- Calls that hand back a pointer into the caller's box; the complement of a number. -/
namespace Go.Abs
variable {G : List (Nat × List PV)}
open Go.RowKit
section
variable {ro : Option Nat} {P : Program} {c : Cx G} {s s' : St} {o : Oper} {d : Option Nat}
end
end Go.Abs

/- Texts that are built piece by piece: strings.Builder. -/
namespace Go.Abs
variable {G : List (Nat × List PV)}
open Go.RowKit
section
variable {P : Program}
end
theorem ownsW.kept {w w' : World} {e : TypeId} {sz n : Nat} {v : Value} {xs : List Value} {row : Option Nat} (h : ownsW w e sz v n xs) (hg : w.grownBy w' row) (hne : ∀ g, blkOf v = some g → some g ≠ row) : ownsW w' e sz v n xs := by
 refine ⟨h.1, ?_⟩
 rcases h.2 with hn | ⟨g, cap, cur, rfl, _, hgg, rest⟩
 ·exact .inl hn
 ·refine .inr ⟨g, cap, cur, rfl, trivial, ?_, rest⟩
  rw [hg.block g (Array.getElem?_eq_some_iff.1 hgg).1 (hne g rfl)]
  exact hgg
structure BldFr (b : Nat) (v : Value) (w w' : World) : Prop where
 os : w'.os = w.os
 tape : w'.tape = w.tape
 output : w'.output = w.output
 size : w.heap.size ≤ w'.heap.size
 block : ∀ k, k < w.heap.size → k ≠ b → blkOf v ≠ some k → w'.heap[k]? = w.heap[k]?
structure BldAt (w : World) (O : Nat → Prop) (θ : Nat → Option Value) (B : TypeId) (x : List Int) (g : Nat) (p v : Value) : Prop where
 t0 : θ 0 = some (.pointer (some ⟨g, 0, none⟩))
 t1 : θ 1 = some v
 heap : w.heap[g]? = some (.cells #[p, v] B (0, 0))
 self : p = .pointer none ∨ p = .pointer (some ⟨g, 0, none⟩)
 own : ownsW w 5 1 v x.length (x.map (.int .u8))
 og : O g
 ov : ∀ k, blkOf v = some k → O k ∧ k < w.heap.size
end Go.Abs

