/- The abstract layer that the proof stands on: no condition. -/
import Derived.Test.YthhdlpggmmfaiaaGreatFlowWaysA3
import Derived.Lib.ConvBytes
import Derived.Laws.BytesString
import Derived.Lib.Join
import Derived.Lib.AppendZeros
import Derived.Shelf.Strings.Builder1
import Derived.Test.YthhdlpggmmfaiaaGreatFlowWaysA2
import Derived.ProofKit
import Derived.OpenShut
import Derived.LaidMore
import Derived.Stop.Joined
import Derived.JoinedCond
/- Short words for the walks; regions that draw their order, walked step by step. -/
namespace Go.Abs
variable {G : List (Nat × List PV)}
open Go.RowKit
abbrev bxv (l : List PV) : List AV := l.map AV.pv
section
variable {ro : Option Nat} {P : Program} {c : Cx G} {Q : Exit → Act → World → Prop} {s : St}
def DrW (ro : Option Nat) (P : Program) (c : Cx G) (Q : Exit → Act → World → Prop) (s : St) (id : Nat) (l : List Oper) (n : Nat) (df : List Deferred) (next ys : Nat) (kt : List Nat) (m0 : Mid) (es : List Eff) (rest : List Oper) (m : Mid) : Prop :=
 (∃ pre, l = pre ++ rest ∧ ∀ rest' es', OpFacts ro P c l n df next ys kt rest' es' → OpFacts ro P c l n df next ys kt (pre ++ rest') (es.reverse ++ es')) → (∀ es', TextOk es' m → TextOk (es.reverse ++ es') m0) →
  runP (fun _ => true) 0 es.reverse m0 = m → AW ro P c (.region id l.toArray true) Q s
theorem runP_snoc (p : Nat → Bool) : ∀ (es : List Eff) (k : Nat) (m : Mid) (e : Eff), (∀ j, p j = true) → runP p k (es ++ [e]) m = e.apply (runP p k es m)
 | [], k, m, e, h => by simp [runP, h]
 | e' :: es, k, m, e, h => by
  simp only [List.cons_append, runP, h, cond_true]
  exact runP_snoc p es (k + 1) _ e h
theorem dr_start {id n next ys : Nat} {kt : List Nat} {df : List Deferred} {l : List Oper} (m0 : Mid) (_hs0 : s = m0.st n df next ys kt) (h : DrW ro P c Q s id l n df next ys kt m0 [] l m0) : AW ro P c (.region id l.toArray true) Q s :=
 h ⟨[], rfl, fun _ _ h => h⟩ (fun _ h => h) rfl
theorem dr_cons {id n next ys : Nat} {kt : List Nat} {df : List Deferred} {l rest : List Oper} {o : Oper} {m0 m : Mid} {es : List Eff} (e : Eff) (hf : ∀ m : Mid, Has e m → StepOk ro P c l o (m.st n df next ys kt) ((e.apply m).st n df next ys kt)) (ht : Has e m)
  (h : DrW ro P c Q s id l n df next ys kt m0 (e :: es) rest (e.apply m)) : DrW ro P c Q s id l n df next ys kt m0 es (o :: rest) m := by
 rintro ⟨pre, h1, h2⟩ h3 h4
 refine h ⟨pre ++ [o], by rw [h1]; simp, fun rest' es' h5 => ?_⟩ (fun es' h5 => ?_) ?_
 ·rw [List.reverse_cons, List.append_assoc, List.append_assoc]
  exact h2 (o :: rest') (e :: es') ⟨hf, h5⟩
 ·rw [List.reverse_cons, List.append_assoc]
  exact h3 (e :: es') ⟨ht, h5⟩
 ·rw [List.reverse_cons, runP_snoc _ _ _ _ _ (fun _ => rfl), h4]
theorem dr_nil {id n next ys : Nat} {kt : List Nat} {df : List Deferred} {l : List Oper} {m0 m : Mid} {es : List Eff} (hm : P.follows .mixedOrders = true) (hs0 : s = m0.st n df next ys kt) (hB : orderB l es.reverse = true) (h : Post c Q .normal (m.st n df next ys kt)) : DrW ro P c Q s id l n df next ys kt m0 es [] m := by
 rintro ⟨pre, h1, h2⟩ h3 h4
 have hF := h2 [] [] trivial
 have hT := h3 [] trivial
 rw [List.append_nil] at h1 hT
 rw [List.append_nil, List.append_nil, ← h1] at hF
 exact aw_drawn es.reverse m0 hm hs0 hF hT hB (by rw [h4]; exact h)
section
variable {id n next ys : Nat} {kt : List Nat} {df : List Deferred} {l rest : List Oper} {o : Oper} {m0 m : Mid} {es : List Eff}
theorem dru {j d : Nat} {want : Bool} (h : DrW ro P c Q s id l n df next ys kt m0 ({ need := [(d, .tup [])], dst := o.dst, val := some (.tup []) } :: es) rest (({ need := [(d, .tup [])], dst := o.dst, val := some (.tup []) } : Eff).apply m))
  (hg : o.guard = some (j, want) := by exact rfl) (hj : ((l[j]?).bind (·.dst)) = some d := by exact rfl) (hn : Nat.blt d n = true := by exact rfl) (hl : look d m.fr = some (.tup []) := by exact rfl) (hk : ktB (m.st n df next ys kt) o.dst = true := by exact rfl) :
  DrW ro P c Q s id l n df next ys kt m0 es (o :: rest) m :=
 dr_cons { need := [(d, .tup [])], dst := o.dst, val := some (.tup []) } (fun m' h => step_off (guard_undef hg hj hn h.1.1) hk (by cases o.dst <;> rfl)) ⟨⟨hl, trivial⟩, trivial, trivial⟩ h
theorem dro_f {j d : Nat} {t : Bool} (ht : t = false) (h : DrW ro P c Q s id l n df next ys kt m0 ({ need := [(d, .pv (.bool t))], dst := o.dst, val := some (.tup []) } :: es) rest (({ need := [(d, .pv (.bool t))], dst := o.dst, val := some (.tup []) } : Eff).apply m))
  (hg : o.guard = some (j, true) := by exact rfl) (hj : ((l[j]?).bind (·.dst)) = some d := by exact rfl) (hn : Nat.blt d n = true := by exact rfl) (hl : look d m.fr = some (.pv (.bool t)) := by exact rfl) (hk : ktB (m.st n df next ys kt) o.dst = true := by exact rfl) :
  DrW ro P c Q s id l n df next ys kt m0 es (o :: rest) m :=
 dr_cons { need := [(d, .pv (.bool t))], dst := o.dst, val := some (.tup []) } (fun m' h => step_off (guard_off hg hj hn h.1.1 ht) hk (by cases o.dst <;> rfl)) ⟨⟨hl, trivial⟩, trivial, trivial⟩ h
theorem dro_t {j d : Nat} {t : Bool} (ht : t = true) (h : DrW ro P c Q s id l n df next ys kt m0 ({ need := [(d, .pv (.bool t))], dst := o.dst, val := some (.tup []) } :: es) rest (({ need := [(d, .pv (.bool t))], dst := o.dst, val := some (.tup []) } : Eff).apply m))
  (hg : o.guard = some (j, false) := by exact rfl) (hj : ((l[j]?).bind (·.dst)) = some d := by exact rfl) (hn : Nat.blt d n = true := by exact rfl) (hl : look d m.fr = some (.pv (.bool t)) := by exact rfl) (hk : ktB (m.st n df next ys kt) o.dst = true := by exact rfl) :
  DrW ro P c Q s id l n df next ys kt m0 es (o :: rest) m :=
 dr_cons { need := [(d, .pv (.bool t))], dst := o.dst, val := some (.tup []) } (fun m' h => step_off (guard_off hg hj hn h.1.1 ht) hk (by cases o.dst <;> rfl)) ⟨⟨hl, trivial⟩, trivial, trivial⟩ h
theorem drm {t d : Nat} {v : AV} (h : DrW ro P c Q s id l n df next ys kt m0 ({ need := [(t, v)], dst := some d, val := some v } :: es) rest (({ need := [(t, v)], dst := some d, val := some v } : Eff).apply m))
  (hg : o.guard = none := by exact rfl) (ho : o.op = .move (.tmp t) := by exact rfl) (hd : o.dst = some d := by exact rfl) (hl : look t m.fr = some v := by exact rfl) (hk : dOk (m.st n df next ys kt) (some d) = true := by exact rfl) :
  DrW ro P c Q s id l n df next ys kt m0 es (o :: rest) m :=
 dr_cons { need := [(t, v)], dst := some d, val := some v } (fun m' h => step_on (guard_no hg) (op_move ho h.1.1 hd hk) rfl) ⟨⟨hl, trivial⟩, trivial, trivial⟩ h
theorem drpt {t d : Nat} {v : AV} {y z : Operand} {b : Bool} (hb : b = true) (h : DrW ro P c Q s id l n df next ys kt m0 ({ need := [(t, .pv (.bool b))], dst := some d, val := some v } :: es) rest (({ need := [(t, .pv (.bool b))], dst := some d, val := some v } : Eff).apply m))
  (hg : o.guard = none := by exact rfl) (ho : o.op = .pick (.tmp t) y z := by exact rfl) (hd : o.dst = some d := by exact rfl) (hl : look t m.fr = some (.pv (.bool b)) := by exact rfl) (hy : ∀ m' : Mid, ev (m'.st n df next ys kt) y = some v := by exact fun _ => rfl) (hk : dOk (m.st n df next ys kt) (some d) = true := by exact rfl) :
  DrW ro P c Q s id l n df next ys kt m0 es (o :: rest) m :=
 dr_cons { need := [(t, .pv (.bool b))], dst := some d, val := some v } (fun m' h => step_on (guard_no hg) (op_pick_t ho h.1.1 hb (hy m') hd hk) rfl) ⟨⟨hl, trivial⟩, trivial, trivial⟩ h
theorem drpf {t d : Nat} {v : AV} {y z : Operand} {b : Bool} (hb : b = false) (h : DrW ro P c Q s id l n df next ys kt m0 ({ need := [(t, .pv (.bool b))], dst := some d, val := some v } :: es) rest (({ need := [(t, .pv (.bool b))], dst := some d, val := some v } : Eff).apply m))
  (hg : o.guard = none := by exact rfl) (ho : o.op = .pick (.tmp t) y z := by exact rfl) (hd : o.dst = some d := by exact rfl) (hl : look t m.fr = some (.pv (.bool b)) := by exact rfl) (hy : ∀ m' : Mid, ev (m'.st n df next ys kt) z = some v := by exact fun _ => rfl) (hk : dOk (m.st n df next ys kt) (some d) = true := by exact rfl) :
  DrW ro P c Q s id l n df next ys kt m0 es (o :: rest) m :=
 dr_cons { need := [(t, .pv (.bool b))], dst := some d, val := some v } (fun m' h => step_on (guard_no hg) (op_pick_f ho h.1.1 hb (hy m') hd hk) rfl) ⟨⟨hl, trivial⟩, trivial, trivial⟩ h
end
section
variable {all rest : List Oper} {o : Oper} {s' : St}
theorem rgu {j d : Nat} {want : Bool} {d' : Option Nat} (h : RegW ro P c all rest Q (s.put d' (some (.tup [])))) (hg : o.guard = some (j, want) := by exact rfl) (hj : ((all[j]?).bind (·.dst)) = some d := by exact rfl) (hn : Nat.blt d s.n = true := by exact rfl) (hl : look d s.fr = some (.tup []) := by exact rfl) (hd : o.dst = d' := by exact rfl) (hk : ktB s d' = true := by exact rfl) :
  RegW ro P c all (o :: rest) Q s := reg_off (guard_undef hg hj hn hl) hd hk h
theorem rgo_f {j d : Nat} {t : Bool} {d' : Option Nat} (ht : t = false) (h : RegW ro P c all rest Q (s.put d' (some (.tup [])))) (hg : o.guard = some (j, true) := by exact rfl) (hj : ((all[j]?).bind (·.dst)) = some d := by exact rfl) (hn : Nat.blt d s.n = true := by exact rfl) (hl : look d s.fr = some (.pv (.bool t)) := by exact rfl) (hd : o.dst = d' := by exact rfl) (hk : ktB s d' = true := by exact rfl) :
  RegW ro P c all (o :: rest) Q s := reg_off (guard_off hg hj hn hl ht) hd hk h
theorem rgo_t {j d : Nat} {t : Bool} {d' : Option Nat} (ht : t = true) (h : RegW ro P c all rest Q (s.put d' (some (.tup [])))) (hg : o.guard = some (j, false) := by exact rfl) (hj : ((all[j]?).bind (·.dst)) = some d := by exact rfl) (hn : Nat.blt d s.n = true := by exact rfl) (hl : look d s.fr = some (.pv (.bool t)) := by exact rfl) (hd : o.dst = d' := by exact rfl) (hk : ktB s d' = true := by exact rfl) :
  RegW ro P c all (o :: rest) Q s := reg_off (guard_off hg hj hn hl ht) hd hk h
theorem prt {fn : Func} {w0 : World} {O0 : Nat → Prop} {t : Nat} {p : PV} (hr : fn.results = [ResultVar.tmp t].toArray := by exact rfl) (h : look t s.fr = some (.pv p) := by exact rfl) (hc : c = Fn.cx w0 O0 := by exact rfl) : Post c (FnPost P fn w0 O0 [.p p]) .ret s := post_ret hc hr (.cons _ _ _ _ _ (.tmp _ _ h) (.p _) .nil) (.inl rfl)
theorem rgp (ho : OpOk ro P c o s s') (h : RegW ro P c all rest Q s') (hg : o.guard = none := by exact rfl) : RegW ro P c all (o :: rest) Q s := reg_cons (guard_no hg) ho h
theorem rgn {j d : Nat} {want t : Bool} (ht : t = want) (ho : OpOk ro P c o s s') (h : RegW ro P c all rest Q s') (hg : o.guard = some (j, want) := by exact rfl) (hj : ((all[j]?).bind (·.dst)) = some d := by exact rfl) (hn : Nat.blt d s.n = true := by exact rfl) (hl : look d s.fr = some (.pv (.bool t)) := by exact rfl) : RegW ro P c all (o :: rest) Q s :=
 reg_cons (guard_on hg hj hn hl ht) ho h
theorem rmv {x : Operand} {v : AV} {d : Option Nat} (h : RegW ro P c all rest Q (s.put d (some v))) (hg : o.guard = none := by exact rfl) (ho : o.op = .move x := by exact rfl) (hx : ev s x = some v := by exact rfl) (hd : o.dst = d := by exact rfl) (hk : dOk s d = true := by exact rfl) :
  RegW ro P c all (o :: rest) Q s := reg_cons (guard_no hg) (op_move ho hx hd hk) h
theorem ras {x : Operand} {v : AV} {d : Option Nat} (h : RegW ro P c all rest Q (s.put d (some v))) (hg : o.guard = none := by exact rfl) (ho : o.op = .assign x := by exact rfl) (hx : ev s x = some v := by exact rfl) (hd : o.dst = d := by exact rfl) (hk : dOk s d = true := by exact rfl) :
  RegW ro P c all (o :: rest) Q s := reg_cons (guard_no hg) (op_assign ho hx hd hk) h
theorem rpt {x y z : Operand} {b : Bool} {v : AV} {d : Option Nat} (hb : b = true) (h : RegW ro P c all rest Q (s.put d (some v))) (hg : o.guard = none := by exact rfl) (ho : o.op = .pick x y z := by exact rfl) (hx : ev s x = some (.pv (.bool b)) := by exact rfl) (hy : ev s y = some v := by exact rfl) (hd : o.dst = d := by exact rfl) (hk : dOk s d = true := by exact rfl) :
  RegW ro P c all (o :: rest) Q s := reg_cons (guard_no hg) (op_pick_t ho hx hb hy hd hk) h
theorem rpf {x y z : Operand} {b : Bool} {v : AV} {d : Option Nat} (hb : b = false) (h : RegW ro P c all rest Q (s.put d (some v))) (hg : o.guard = none := by exact rfl) (ho : o.op = .pick x y z := by exact rfl) (hx : ev s x = some (.pv (.bool b)) := by exact rfl) (hy : ev s z = some v := by exact rfl) (hd : o.dst = d := by exact rfl) (hk : dOk s d = true := by exact rfl) :
  RegW ro P c all (o :: rest) Q s := reg_cons (guard_no hg) (op_pick_f ho hx hb hy hd hk) h
end
end
end Go.Abs

/- A zero value, written out as a constant, stored. -/
namespace Go.Abs
variable {G : List (Nat × List PV)}
open Go.RowKit
section
variable {ro : Option Nat} {P : Program} {c : Cx G} {s s' : St} {o : Oper} {d : Option Nat}
theorem op_store_zc {T n : Nat} {x : Operand} {us0 : Array Value} {ps : List PV} {id k : Nat} {t : TypeId} {cells : List AV} (ho : o.op = .store T x (.const (.agg us0))) (hx : ev s x = some (.lp id k)) (hz : czs us0.toList ps)
  (hb : look id s.hp = some (.box t cells)) (hT : (oneB P T || aggB P T n) = true) (hn1 : (AV.pv (.agg ps)).cells.length = (bif oneB P T then 1 else n)) (hfit : Nat.ble (k + (AV.pv (.agg ps)).cells.length) cells.length = true) (hd : o.dst = d) (hk : ktB s d = true) :
  OpOk ro P c o s ((s.setBlk id (some (.box t (splice cells k (AV.pv (.agg ps)).cells)))).put d none) :=
 opOk_skip hd (by cases d <;> exact hk) (by rw [ho]; intro k h; cases h) fun a w O θ hs => by
  have h := ev_ok hs hx
  have hv : RdA w O θ (.pv (.agg ps)) (a.eval (.const (.agg us0))) := .pv _ _ (by have h1 := rd_of_reads1 (w := w) (O := O) (czs_reads1 hz); rw [show us0.toList.toArray = us0 by simp] at h1; exact h1)
  generalize ha : a.eval x = u at h
  generalize hb' : a.eval (.const (.agg us0)) = z at hv
  generalize hve : AV.pv (.agg ps) = v at hv hn1 hfit ⊢
  have hc : v.cellish = true := by rw [← hve]; rfl
  have hsz : ∀ w, (sizeOf T).run P w = .ok v.cells.length w := by
   rw [hn1]
   cases e : oneB P T with
   | true => exact (oneB_spec e).2.1
   | false => rw [e] at hT; exact (aggB_spec (by simpa using hT)).2.1
  cases h with
  | lp _ _ g h =>
   obtain ⟨v', hv', ⟨g', us, he, h1, h2, h3⟩, _⟩ := hs.hp id _ hb
   rw [h] at hv'; cases hv'
   cases he
   obtain ⟨c1, c2, c3⟩ := AV.cells_ok hv hc hs.one
   have hfit' : k + v.cells.length ≤ us.size := by rw [h2]; exact Nat.le_of_ble_eq_true hfit
   have hrun := run_storeAt (P := P) (T := T) hsz w g k z us t c1 c2 h1 hfit'
   refine ⟨w.setRow g (splice us.toList k z.cells.toList).toArray, O, θ, by simp [execOp, ho, ha, hb', hrun], ?_⟩
   have hg := setRow_grown w g (splice us.toList k z.cells.toList).toArray
   have hO : ∀ b, b < w.heap.size → ¬ O b → ¬ O b ∧ (w.setRow g (splice us.toList k z.cells.toList).toArray).heap[b]? = w.heap[b]? := by
    intro b hb1 hb2
    refine ⟨hb2, hg.block b hb1 (fun e => hb2 ?_)⟩
    obtain ⟨v2, hv2, _, hO2⟩ := hs.hp id _ hb
    rw [h] at hv2; cases hv2
    exact (hO2 b (by simpa [blkOf] using e.symm)).1
   have hzl : z.cells.toList.length = v.cells.length := by simpa using c1
   refine hs.upd hb h hg ⟨g, _, rfl, setRow_at w g us _ t (0, 0) h1, ?_, ?_⟩
   ·simp only [List.size_toArray]
    rw [splice_length _ _ _ (by simpa [hzl] using hfit'), splice_length _ _ _ (Nat.le_of_ble_eq_true hfit)]
    simpa using h2
   ·intro j y u hy hu
    rw [splice_get _ _ _ (Nat.le_of_ble_eq_true hfit)] at hy
    rw [List.getElem?_toArray, splice_get _ _ _ (by simpa [hzl] using hfit'), hzl] at hu
    split at hy
    ·rename_i hj; rw [if_pos hj] at hu
     rw [Array.getElem?_toList] at hu
     exact ⟨(c3 _ y u hy hu).mono hg.size hO (fun _ _ e => e), c2 u (Array.mem_toList_iff.2 (Array.mem_of_getElem? hu))⟩
    ·rename_i hj; rw [if_neg hj] at hu
     rw [Array.getElem?_toList] at hu
     exact ⟨(h3 j y u hy hu).1.mono hg.size hO (fun _ _ e => e), (h3 j y u hy hu).2⟩
end
end Go.Abs

/- Bits and quotients of integers; texts and bytes. -/
namespace Go.Abs
variable {G : List (Nat × List PV)}
open Go.RowKit
def bitsI (k : IntKind) (f : BitVec k.bits → BitVec k.bits → BitVec k.bits) (x y : Int) : Int := k.wrap (f (BitVec.ofInt k.bits x) (BitVec.ofInt k.bits y)).toNat
def andI (k : IntKind) (x y : Int) : Int := bitsI k (fun a b => a &&& b) x y
def orI (k : IntKind) (x y : Int) : Int := bitsI k (fun a b => a ||| b) x y
def xorI (k : IntKind) (x y : Int) : Int := bitsI k (fun a b => a ^^^ b) x y
def notI (k : IntKind) (x y : Int) : Int := bitsI k (fun a b => a &&& ~~~b) x y
def intOp2 (op : BinOp) (k : IntKind) (m n : Int) : Option PV :=
 match op with
 | .and => some (.int k (andI k m n))
 | .or => some (.int k (orI k m n))
 | .xor => some (.int k (xorI k m n))
 | .andNot => some (.int k (notI k m n))
 | .quo => if n = 0 then none else some (.int k (k.wrap (m.tdiv n)))
 | .rem => if n = 0 then none else some (.int k (m.tmod n))
 | _ => none
section
variable {ro : Option Nat} {P : Program} {c : Cx G} {s s' : St} {o : Oper} {d : Option Nat}
theorem op_int2 {op : BinOp} {T T' : TypeId} {x y : Operand} {k : IntKind} {m n : Int} {r : PV} (ho : o.op = .binOp op T x y T') (hx : ev s x = some (.pv (.int k m))) (hy : ev s y = some (.pv (.int k n)))
  (hr : intOp2 op k m n = some r) (hd : o.dst = d) (hn : dOk s d = true) : OpOk ro P c o s (s.put d (some (.pv r))) :=
 opOk_value hd hn (by rw [ho]; intro k h; cases h) fun a w O θ hs => by
  have e1 := ev_int hs hx
  have e2 := ev_int hs hy
  cases op <;> simp only [intOp2, Option.some.injEq, reduceCtorEq] at hr
  case quo =>
   split at hr
   ·cases hr
   ·rename_i h0
    cases hr
    exact ⟨_, by simp [execOp, ho, eqGuard, binOp, e1, e2, Op.intDiv, h0], .pv _ _ (.int _ _)⟩
  case rem =>
   split at hr
   ·cases hr
   ·rename_i h0
    cases hr
    exact ⟨_, by simp [execOp, ho, eqGuard, binOp, e1, e2, Op.intDiv, h0], .pv _ _ (.int _ _)⟩
  all_goals subst hr
  all_goals exact ⟨_, by simp [execOp, ho, eqGuard, binOp, e1, e2, Op.intBits, andI, orI, xorI, notI, bitsI], .pv _ _ (.int _ _)⟩
end
end Go.Abs

/- Package variables: an array of known elements. -/
namespace Go.Abs
variable {G : List (Nat × List PV)}
open Go.RowKit
section
variable {ro : Option Nat} {P : Program} {c : Cx G} {s s' : St} {o : Oper} {d : Option Nat}
end
end Go.Abs

/- An array of a box, as a slice that is copied into. -/
namespace Go.Abs
variable {G : List (Nat × List PV)}
open Go.RowKit
section
variable {ro : Option Nat} {P : Program} {c : Cx G} {s s' : St} {o : Oper} {d : Option Nat}
theorem op_slice_aw {T n e sz id off : Nat} {x : Operand} (ho : o.op = .slice T x none none none) (hx : ev s x = some (.lp id off)) (ht : arrayB P T n e sz = true) (hd : o.dst = d) (hn : dOk s d = true) :
  OpOk ro P c o s (s.put d (some (.aw id off n))) :=
 opOk_value hd hn (by rw [ho]; intro k h; cases h) fun a w O θ hs => by
  obtain ⟨i, t1, t2, t3⟩ := arrayB_spec ht
  have h := ev_ok hs hx
  generalize hv : a.eval x = v at h
  cases h with
  | lp _ _ g h =>
   refine ⟨.slice (some ⟨g, off, none⟩) n n, ?_, .aw _ _ _ g h⟩
   by_cases h0 : n = 0
   ·subst h0
    simp [execOp, ho, hv, Instr.sliceAt, run_underlying t1, Instr.sureAddr, Instr.sliceBounds, sizeOf, typeInfo, t2, t3, Addr.add_lit]
   ·simp [execOp, ho, hv, Instr.sliceAt, run_underlying t1, Instr.sureAddr, Instr.sliceBounds, sizeOf, typeInfo, t2, t3, Addr.add_lit]
theorem op_copy_aw {T T2 e sz n : Nat} {x y : Operand} {id off : Nat} {t : TypeId} {cells cells' : List AV} {news : List (List PV)} (ho : o.op = .call { callee := .builtin .copy, args := #[x, y], argTypes := #[T, T2] }) (hx : ev s x = some (.aw id off n)) (hb : look id s.hp = some (.box t cells))
  (hy : ev s y = some (.pv (.vs sz news))) (ht : sliceB P T e sz = true) (hfit : Nat.ble (off + n * sz) cells.length = true) (hc : splice cells off (((news.take n).flatten).map .pv) = cells') (hd : o.dst = d) (hn : dOk s d = true) :
  OpOk ro P c o s ((s.setBlk id (some (.box t cells'))).put d (some (.pv (.int .i64 (Nat.min news.length n))))) :=
 opOk_mem (s1 := s.setBlk id (some (.box t cells'))) hd hn (by rw [ho]; intro k h; cases h) fun a w O θ hs => by
  subst hc
  obtain ⟨i, h1, h2, h3⟩ := sliceB_spec ht
  have h := ev_ok hs hx
  have hv := ev_pv hs hy
  generalize ha : a.eval x = u at h
  generalize hay : a.eval y = v at hv
  cases h with
  | aw _ _ _ g h =>
   obtain ⟨v', hv', ⟨g', us, he, b1, b2, b3⟩, hO2⟩ := hs.hp id _ hb
   rw [h] at hv'; cases hv'
   cases he
   have hfit' : off + n * sz ≤ us.size := by rw [b2]; exact Nat.le_of_ble_eq_true hfit
   have idle : Nat.min news.length n = 0 → (Builtin.lenOf v).run P w = .ok news.length w → (Builtin.firstCells sz 0 v).run P w = .ok #[] w →
     ∃ v w' O' θ', (execOp a.eval o).run P w = .ok (.value v) w' ∧ SimAt c (s.setBlk id (some (.box t (splice cells off (((news.take n).flatten).map .pv))))) O' θ' a w' ∧ RdA w' O' θ' (.pv (.int .i64 (Nat.min news.length n))) v := by
    intro h0 h4 h5
    have hr : news.take n = [] := by
     have := List.length_take (i := n) (l := news)
     exact List.eq_nil_of_length_eq_zero (by rw [this, Nat.min_comm]; exact h0)
    refine ⟨goInt 0, w, O, θ, ?_, ?_, by rw [h0]; exact .pv _ _ (.int _ _)⟩
    ·simp [execOp, ho, resolve, invoke, builtin, ha, hay, Builtin.copy_, run_underlying h1, h4, h0, sizeOf, typeInfo, h2, h3, h5, storeCells]
    ·rw [hr]
     have : splice cells off (([] : List (List PV)).flatten.map AV.pv) = cells := by simp [splice]
     rw [this]
     exact hs.upd hb h (World.grownBy.refl w _) ⟨g, us, rfl, b1, b2, b3⟩
   rcases rd_vs hv with ⟨ad, cap0, rfl, rfl, _, _⟩ | ⟨b, off2, cap, f, rfl, hr⟩
   ·exact idle (by simp) (by simp [Builtin.lenOf]) (by cases ad <;> simp [Builtin.firstCells, loadCells, loadCellsFrom])
   ·obtain ⟨vs, q1, q2, q3, q4⟩ := rows_of_vs hr
    by_cases h0 : Nat.min news.length n = 0
    ·exact idle h0 (by simp [Builtin.lenOf]) (by simp [Builtin.firstCells, loadCells, loadCellsFrom])
    ·have hle : Nat.min news.length n * sz ≤ news.length * sz := Nat.mul_le_mul_right _ (Nat.min_le_left _ _)
     have hln : Nat.min news.length n * sz ≤ n * sz := Nat.mul_le_mul_right _ (Nat.min_le_right _ _)
     have hvl : (vs.take (Nat.min news.length n * sz)).length = Nat.min news.length n * sz := by rw [List.length_take, q1.len, Nat.min_eq_left hle]
     have hfl : ((news.take n).flatten).length = Nat.min news.length n * sz := by
      rw [flatten_len (sz := sz) (fun row hr => q1.hz row (List.mem_of_mem_take hr)), List.length_take, Nat.min_comm]
     have hpos : 0 < sz ∨ sz = 0 := by omega
     -- each of the cells
     have hget : ∀ (k : Nat) (p : PV), ((news.take n).flatten)[k]? = some p → ∃ u, vs[k]? = some u ∧ Rd w O p u ∧ p.one = true := by
      intro k p hp
      have hk : k < Nat.min news.length n * sz := by rw [← hfl]; exact (List.getElem?_eq_some_iff.1 hp).1
      have hpos : 0 < sz := by
       rcases Nat.eq_zero_or_pos sz with h | h
       ·subst h; simp at hk
       ·exact h
      have hq' : k / sz < Nat.min news.length n := Nat.div_lt_of_lt_mul (by rw [Nat.mul_comm]; exact hk)
      have hm : k % sz < sz := Nat.mod_lt _ hpos
      have e1 : k / sz * sz + k % sz = k := by rw [Nat.mul_comm]; exact Nat.div_add_mod k sz
      have hlt : k / sz < news.length := Nat.lt_of_lt_of_le hq' (Nat.min_le_left _ _)
      have hltn : k / sz < n := Nat.lt_of_lt_of_le hq' (Nat.min_le_right _ _)
      have er : news[k / sz]? = some news[k / sz] := List.getElem?_eq_getElem hlt
      have hzr : (news[k / sz]).length = sz := q1.hz _ (List.mem_of_getElem? er)
      have er2 : (news.take n)[k / sz]? = some news[k / sz] := by rw [List.getElem?_take, if_pos hltn]; exact er
      have hp2 : (news[k / sz])[k % sz]? = some p := by
       rw [← flatten_get (fun row hr => q1.hz row (List.mem_of_mem_take hr)) _ _ _ er2 hm, e1]; exact hp
      have hku : k < vs.length := by rw [q1.len]; omega
      exact ⟨vs[k], List.getElem?_eq_getElem hku, q1.rd _ _ _ p _ er hp2 (by rw [e1]; exact List.getElem?_eq_getElem hku), q1.one _ (List.mem_of_getElem? er) p (List.mem_of_getElem? hp2)⟩
     have hf := run_firstCells_some (P := P) w sz (Nat.min news.length n) ⟨b, off2, none⟩ news.length cap _ hvl (fun j u hu => by
      rw [Addr.add_lit]
      rw [List.getElem?_take] at hu
      split at hu
      ·exact q2 j u hu
      ·cases hu)
     have h1c : ∀ u ∈ vs.take (Nat.min news.length n * sz), u.oneCell' = true := by
      intro u hu
      obtain ⟨k, hk⟩ := List.getElem?_of_mem hu
      have hkl : k < Nat.min news.length n * sz := by have := (List.getElem?_eq_some_iff.1 hk).1; omega
      have hkf : k < ((news.take n).flatten).length := by rw [hfl]; exact hkl
      obtain ⟨u2, g1, g2, g3⟩ := hget k _ (List.getElem?_eq_getElem hkf)
      rw [List.getElem?_take, if_pos hkl, g1] at hk
      cases hk
      exact g2.one_ g3
     have hst := run_storeCells_at P g off t (vs.take (Nat.min news.length n * sz)) 0 us w b1 (by rw [hvl]; omega) h1c
     simp only [Nat.add_zero, hvl] at hst
     have hnew : (us.toList.take off ++ ((vs.take (Nat.min news.length n * sz)) ++ us.toList.drop (off + Nat.min news.length n * sz))).toArray = (splice us.toList off (vs.take (Nat.min news.length n * sz))).toArray := by unfold splice; rw [hvl]
     have hgr := setRow_grown w g (splice us.toList off (vs.take (Nat.min news.length n * sz))).toArray
     have hO : ∀ b, b < w.heap.size → ¬ O b → ¬ O b ∧ (w.setRow g (splice us.toList off (vs.take (Nat.min news.length n * sz))).toArray).heap[b]? = w.heap[b]? := fun b hb1 hb2 =>
      ⟨hb2, hgr.block b hb1 (fun e => hb2 (hO2 b (by simpa [blkOf] using e.symm)).1)⟩
     have hpl : (((news.take n).flatten).map AV.pv).length = Nat.min news.length n * sz := by rw [List.length_map, hfl]
     have hfc : off + (((news.take n).flatten).map AV.pv).length ≤ cells.length := by rw [hpl]; have := Nat.le_of_ble_eq_true hfit; omega
     refine ⟨goInt (Nat.min news.length n), _, O, θ, ?_, hs.upd hb h hgr ⟨g, _, rfl, setRow_at w g us _ t (0, 0) b1, ?_, ?_⟩, .pv _ _ (.int _ _)⟩
     ·simp only [execOp, ho, resolve, invoke, builtin, List.map_toArray, List.map_cons, List.map_nil, ha, hay, Sem.run_bind, Sem.run_pure, Result.andThen_ok, Builtin.copy_]
      simp [run_underlying h1, Builtin.lenOf, sizeOf, typeInfo, h2, h3, hf, hst, splice, hvl]
     ·simp only [List.size_toArray]
      rw [splice_length _ _ _ (by rw [hvl]; simp; omega), splice_length _ _ _ hfc]
      simpa using b2
     ·intro j y u hy hu
      rw [splice_get _ _ _ hfc] at hy
      rw [List.getElem?_toArray, splice_get _ _ _ (by rw [hvl]; simp; omega), hvl] at hu
      rw [hpl] at hy
      split at hy
      ·rename_i hj; rw [if_pos hj] at hu
       rw [List.getElem?_map, Option.map_eq_some_iff] at hy
       obtain ⟨p, hp, rfl⟩ := hy
       obtain ⟨u2, g1, g2, g3⟩ := hget _ p hp
       rw [List.getElem?_take, if_pos (by omega), g1] at hu
       cases hu
       exact ⟨.pv _ _ (g2.mono hgr.size hO), g2.one_ g3⟩
      ·rename_i hj; rw [if_neg hj] at hu
       rw [Array.getElem?_toList] at hu
       exact ⟨(b3 j y u hy hu).1.mono hgr.size hO (fun _ _ e => e), (b3 j y u hy hu).2⟩
end
def A2.cp {α : Type} (x : A2 α) (l : List α) : A2 α := ⟨(l[0]?).getD x.a0, (l[1]?).getD x.a1⟩
def A3.cp {α : Type} (x : A3 α) (l : List α) : A3 α := ⟨(l[0]?).getD x.a0, (l[1]?).getD x.a1, (l[2]?).getD x.a2⟩
def A4.cp {α : Type} (x : A4 α) (l : List α) : A4 α := ⟨(l[0]?).getD x.a0, (l[1]?).getD x.a1, (l[2]?).getD x.a2, (l[3]?).getD x.a3⟩
end Go.Abs

/- Functions of Go's library, by the contracts of the kit's shelf. -/
namespace Go.Abs
variable {G : List (Nat × List PV)}
open Go.RowKit
end Go.Abs

/- A row of the call's own, cut short; zeros behind nil; what a nil slice has room for. -/
namespace Go.Abs
variable {G : List (Nat × List PV)}
open Go.RowKit
section
variable {ro : Option Nat} {P : Program} {c : Cx G} {s s' : St} {o : Oper} {d : Option Nat}
theorem op_slice_own (kk : Nat) (hk : freshB s kk = true) {T e sz : Nat} {x y : Operand} {k : IntKind} {n : Int} {id : Nat} {rows rows' : List (List PV)} (ho : o.op = .slice T x none (some y) none) (hx : ev s x = some (.ls id)) (hb : look id s.hp = some (.row e sz rows)) (hy : ev s y = some (.pv (.int k n)))
  (ht : sliceB P T e sz = true) (hr : cutL rows 0 n = some rows') (hd : o.dst = d) (hn : dOk s d = true) : OpOk ro P c o s ((s.addAt kk (some id) (.row e sz rows')).put d (some (.ls kk))) :=
 opOk_mem (s1 := s.addAt kk (some id) (.row e sz rows')) hd hn (by rw [ho]; intro k h; cases h) fun a w O θ hs => by
  obtain ⟨q0, q1, q2, rfl⟩ := cutL_spec hr
  obtain ⟨i, h1, h2, h3⟩ := sliceB_spec ht
  have h := ev_ok hs hx
  have hi := ev_int hs hy
  generalize ha : a.eval x = u at h
  cases h with
  | ls _ _ h =>
   obtain ⟨v', hv', ⟨us, hown, hrd⟩, hO2⟩ := hs.hp id _ hb
   rw [h] at hv'; cases hv'
   have hl : ((rows.take n.toNat).drop (0 : Int).toNat).length = n.toNat := by simp; omega
   have hrw : (rows.take n.toNat).drop (0 : Int).toNat = rows.take n.toNat := by simp
   have hrd2 : RowsRd w O sz (rows.take n.toNat) (us.take (n.toNat * sz)) := by
    refine ⟨?_, fun row hr => hrd.hz row (List.mem_of_mem_take hr), fun row hr => hrd.one row (List.mem_of_mem_take hr), fun i j row x u h1 h2 h3 => ?_⟩
    ·have : n.toNat * sz ≤ rows.length * sz := Nat.mul_le_mul_right _ (by omega)
     rw [List.length_take, List.length_take, hrd.len, Nat.min_eq_left this, Nat.min_eq_left (by omega)]
    ·rw [List.getElem?_take] at h1 h3
     split at h1
     ·split at h3
      ·exact hrd.rd i j row x u h1 h2 h3
      ·cases h3
     ·cases h1
   have key : ∃ v, (execOp a.eval o).run P w = .ok (.value v) w ∧ blkOf v = blkOf u ∧ v.oneCell' = true ∧ ownsW w e sz v n.toNat (us.take (n.toNat * sz)) := by
    have htl : (us.take (n.toNat * sz)).length = n.toNat * sz := by
     have : n.toNat * sz ≤ rows.length * sz := Nat.mul_le_mul_right _ (by omega)
     rw [List.length_take, hown.1, Nat.min_eq_left this]
    rcases hown.2 with ⟨rfl, h6⟩ | ⟨g, cap, cur, rfl, _, hg, hnc, hcm, hcs, htk⟩
    ·have hn0 : n = 0 := by omega
     subst hn0
     have b1 := run_sliceBound (P := P) (w := w) (k := k) (n := 0) (y := 0) (code := .sliceAcap) (by omega) (by omega)
     refine ⟨.slice none 0 0, ?_, rfl, rfl, ?_⟩
     ·simp [execOp, ho, ha, hi, Instr.sliceAt, run_underlying h1, Instr.slice, Instr.sliceBounds, sizeOf, typeInfo, h2, h3, b1]
     ·have : us.take ((0 : Int).toNat * sz) = [] := by simp
      rw [this]
      exact ownsW_nil w e sz
    ·have b1 := run_sliceBound (P := P) (w := w) (k := k) (n := n) (y := cap) (code := .sliceAcap) (by omega) (by omega)
     refine ⟨.slice (some ⟨g, 0, none⟩) n.toNat cap, ?_, rfl, rfl, htl, .inr ⟨g, cap, cur, rfl, trivial, hg, by omega, hcm, hcs, ?_⟩⟩
     ·by_cases hc0 : cap = 0
      ·subst hc0
       simp [execOp, ho, ha, hi, Instr.sliceAt, run_underlying h1, Instr.slice, Instr.sliceBounds, sizeOf, typeInfo, h2, h3, b1, Addr.add_lit]
      ·simp [execOp, ho, ha, hi, Instr.sliceAt, run_underlying h1, Instr.slice, Instr.sliceBounds, sizeOf, typeInfo, h2, h3, b1, Addr.add_lit]
     ·rw [← htk, List.take_take, Nat.min_eq_left (Nat.mul_le_mul_right _ (by omega))]
   obtain ⟨v, hrun, hbv, hone, hown2⟩ := key
   have hg := World.grownBy.refl w (blkOf u)
   obtain ⟨O', θ', h4, h5, h6, h7⟩ := hs.addAt (w' := w) (row := blkOf u) (v := v) (b := .row e sz ((rows.take n.toNat).drop (0 : Int).toNat)) kk hk (some id)
    (fun A' e => by cases e; exact ⟨_, _, hb, h, rfl⟩) (fun e => by cases e) hg
    (fun g hg' => by rw [hbv] at hg'; exact ⟨(hO2 g hg').2.1, .inr hg'⟩) hone (fun O' θ' hO' hθ' => by
     rw [hrw]
     refine ⟨us.take (n.toNat * sz), by rw [← hrw, hl]; exact hown2, hrd2.mono (Nat.le_refl _) fun b hb1 hb2 => ⟨fun hh => ?_, rfl⟩⟩
     rcases (hO' b).1 hh with hh | hh
     ·exact hb2 hh
     ·rw [hbv] at hh; exact hb2 (hO2 b hh).1)
   exact ⟨v, w, O', θ', hrun, h7, .ls _ _ h6⟩
theorem op_append_zeros (kk : Nat) (hk : freshB s kk = true) {T T2 e sz bytes : Nat} {x y : Operand} {k k2 : IntKind} {n : Int} {z : Value} {zs : List PV} {rows : List (List PV)} (ho : o.op = .call { callee := .builtin .append, args := #[x, y], argTypes := #[T, T2] }) (hx : ev s x = some (.pv .nils)) (hy : ev s y = some (.pv (.int k n))) (h0 : 0 < n)
  (hroom : n * bytes ≤ 140737488355328) (ht : sliceB P T e sz = true) (ht2 : P.underlying T2 = some (.int k2)) (hby : elemB P e bytes = true) (hby0 : Nat.blt 0 bytes = true) (hz : zeroIs P e z) (hzs : czs z.cells.toList zs) (hzl : zs.length = sz) (hsz : Nat.blt 0 sz = true) (hrows : List.replicate n.toNat zs = rows)
  (hd : o.dst = d) (hn : dOk s d = true) : OpOk ro P c o s ((s.addAt kk none (.row e sz rows)).put d (some (.ls kk))) :=
 opOk_mem (s1 := s.addAt kk none (.row e sz rows)) hd hn (by rw [ho]; intro k h; cases h) fun a w O θ hs => by
  subst hrows
  obtain ⟨i, h1, h2, h3⟩ := sliceB_spec ht
  have hb2 : i.bytes = bytes := by simpa [elemB, h2] using hby
  have hb1 : 0 < bytes := by simpa [Nat.blt_eq] using hby0
  have hsz' : 0 < sz := by simpa [Nat.blt_eq] using hsz
  obtain ⟨_, i', hi', hz'⟩ := zeroIs_spec hz w
  rw [h2] at hi'; cases hi'
  obtain ⟨m, rfl⟩ : ∃ m : Nat, n = (m : Int) := ⟨n.toNat, by omega⟩
  have hm0 : 0 < m := by omega
  have hmm : (m : Int) * 1 ≤ (m : Int) * bytes := Int.mul_le_mul_of_nonneg_left (by omega) (by omega)
  have hmb : m * bytes ≤ 140737488355328 := by
   have h : ((m * bytes : Nat) : Int) ≤ 140737488355328 := by rw [Int.natCast_mul]; exact hroom
   omega
  have hvx : a.eval x = .slice none 0 0 := by
   have := ev_pv hs hx
   generalize a.eval x = v at this
   cases this; rfl
  have hrun := Lib.run_append_nil_zeros (P := P) w T T2 o.type e i z k k2 h1 ht2 h2 hz' m hm0 (by omega) (by omega) (by rw [hb2]; omega)
  have hge := grownCap_ge w m 0 e
  have hcm := grownCap_le_maxLen w m 0 e (by unfold maxLen; omega)
  have hzr := czs_reads1 (w := w) (O := O) hzs
  have hzc : z.cells.size = sz := by have := hzr.1; simp at this; omega
  have hzcs : ∀ k, (Builtin.zeroCells z.cells k).size = k * sz := fun k => by simp [Builtin.zeroCells, hzc]
  have hget : ∀ k, k < m * sz → (Builtin.zeroCells z.cells m)[k]? = z.cells[k % sz]? := fun k hk => by
   rw [Array.getElem?_eq_getElem (by rw [hzcs]; exact hk), Array.getElem?_eq_getElem (by rw [hzc]; exact Nat.mod_lt _ hsz')]
   simp [Builtin.zeroCells, hzc, Nat.mod_lt _ hsz']
  have hg : w.grownBy (w.drew.alloc (.cells (Builtin.zeroCells z.cells m ++ Builtin.zeroCells z.cells (grownCap w m 0 e - m)) e)) none := ⟨rfl, rfl, rfl, by simp, fun k hk _ => heapOld w.drew _ k hk⟩
  have hzf : ((Builtin.zeroCells z.cells m).toList).length = m * sz := by rw [Array.length_toList, hzcs]
  obtain ⟨O', θ', h4, h5, h6, h7⟩ := hs.addAt (w' := w.drew.alloc (.cells (Builtin.zeroCells z.cells m ++ Builtin.zeroCells z.cells (grownCap w m 0 e - m)) e)) (row := none) (v := .slice (some ⟨w.heap.size, 0, none⟩) m (grownCap w m 0 e)) (b := .row e sz (List.replicate (m : Int).toNat zs)) kk hk none (by simp) (fun _ => rfl) hg
   (fun g hg => by simp [blkOf] at hg; subst hg; simp) rfl (fun O' θ' hO' _ => by
    refine ⟨(Builtin.zeroCells z.cells m).toList, ⟨by rw [hzf]; simp, .inr ⟨w.heap.size, grownCap w m 0 e, _, by simp, trivial, heap_alloc_new w.drew _, by simp; exact hge, hcm, ?_, ?_⟩⟩, ?_⟩
    ·simp only [Array.size_append, hzcs, ← Nat.add_mul]
     exact Nat.mul_le_mul_right _ (by omega)
    ·simp only [Array.toList_append, List.length_replicate, Int.toNat_natCast]
     rw [← hzf]
     exact List.take_left
    ·refine ⟨by rw [hzf]; simp, fun row hr => by rw [List.eq_of_mem_replicate hr]; exact hzl, fun row hr x hx => by rw [List.eq_of_mem_replicate hr] at hx; exact hzr.2.1 x hx, fun i' j row x u hr hx hu => ?_⟩
     rw [List.getElem?_replicate] at hr
     split at hr
     ·rename_i hi'
      cases hr
      have hj : j < sz := by have := (List.getElem?_eq_some_iff.1 hx).1; omega
      rw [Array.getElem?_toList, hget _ (index_lt (by simpa using hi') hj), show (i' * sz + j) % sz = j by rw [Nat.mul_comm, Nat.mul_add_mod, Nat.mod_eq_of_lt hj]] at hu
      refine (hzr.2.2 j x u hx (by simpa using hu)).mono hg.size (fun b hb hn => ⟨fun hh => ?_, hg.block b hb (by simp)⟩)
      rcases (hO' b).1 hh with h | h
      ·exact hn h
      ·simp [blkOf] at h; omega
     ·cases hr)
  refine ⟨_, _, O', θ', ?_, h7, .ls _ _ h6⟩
  simp [execOp, ho, resolve, invoke, builtin, hvx, ev_int hs hy, hrun]
theorem op_cap_nils {T e sz : Nat} {x : Operand} (ho : o.op = .call { callee := .builtin .cap, args := #[x], argTypes := #[T] }) (hx : ev s x = some (.pv .nils)) (ht : sliceB P T e sz = true) (hd : o.dst = d) (hn : dOk s d = true) : OpOk ro P c o s (s.put d (some (.pv (.int .i64 0)))) :=
 opOk_value hd hn (by rw [ho]; intro k h; cases h) fun a w O θ hs => by
  have hvx : a.eval x = .slice none 0 0 := by
   have := ev_pv hs hx
   generalize a.eval x = v at this
   cases this; rfl
  obtain ⟨i, h1, h2, h3⟩ := sliceB_spec ht
  exact ⟨goInt 0, by simp [execOp, ho, resolve, invoke, builtin, hvx, Builtin.cap_, run_underlying h1], .pv _ _ (.int _ _)⟩
theorem op_slice_nils {T e sz : Nat} {x y : Operand} {k : IntKind} (ho : o.op = .slice T x none (some y) none) (hx : ev s x = some (.pv .nils)) (hy : ev s y = some (.pv (.int k 0))) (ht : sliceB P T e sz = true) (hd : o.dst = d) (hn : dOk s d = true) : OpOk ro P c o s (s.put d (some (.pv .nils))) :=
 opOk_value hd hn (by rw [ho]; intro k h; cases h) fun a w O θ hs => by
  have hvx : a.eval x = .slice none 0 0 := by
   have := ev_pv hs hx
   generalize a.eval x = v at this
   cases this; rfl
  obtain ⟨i, h1, h2, h3⟩ := sliceB_spec ht
  have b1 := run_sliceBound (P := P) (w := w) (k := k) (n := 0) (y := 0) (code := .sliceAcap) (by omega) (by omega)
  exact ⟨.slice none 0 0, by simp [execOp, ho, hvx, ev_int hs hy, Instr.sliceAt, run_underlying h1, Instr.slice, Instr.sliceBounds, sizeOf, typeInfo, h2, h3, b1], .pv _ _ .nils⟩
end
end Go.Abs
namespace Go.Abs
def zerOk (n : Int) (bytes : Nat) : Option Unit := if 0 < n ∧ n * bytes ≤ 140737488355328 then some () else none
theorem zerOk_spec {n : Int} {bytes : Nat} {u : Unit} (h : zerOk n bytes = some u) : 0 < n ∧ n * bytes ≤ 140737488355328 := by
 unfold zerOk at h
 split at h
 ·assumption
 ·cases h
theorem cp4 {α : Type} (p : List α → Prop) (l : List α) (h : p [] ∧ (∀ a, p [a]) ∧ (∀ a b, p [a, b]) ∧ (∀ a b c, p [a, b, c]) ∧ ∀ a b c d r, p (a :: b :: c :: d :: r)) : p l := by
 match l with
 | [] => exact h.1
 | [a] => exact h.2.1 a
 | [a, b] => exact h.2.2.1 a b
 | [a, b, c] => exact h.2.2.2.1 a b c
 | a :: b :: c :: d :: r => exact h.2.2.2.2 a b c d r
end Go.Abs
namespace Go.Abs
variable {G : List (Nat × List PV)}
open Go.RowKit
section
variable {ro : Option Nat} {P : Program} {c : Cx G} {s s' : St} {o : Oper} {d : Option Nat}
end
end Go.Abs
namespace Go.Abs
end Go.Abs

/- A box that holds a function which holds that box: a function that calls itself by its own variable. -/
namespace Go.Abs
variable {G : List (Nat × List PV)}
open Go.RowKit
end Go.Abs

/- Calls that hand back a pointer into the caller's box; the complement of a number. -/
namespace Go.Abs
variable {G : List (Nat × List PV)}
open Go.RowKit
section
variable {ro : Option Nat} {P : Program} {c : Cx G} {s s' : St} {o : Oper} {d : Option Nat}
end
end Go.Abs

/- Texts that are built piece by piece: strings.Builder. -/
namespace Go.Abs
variable {G : List (Nat × List PV)}
open Go.RowKit
section
variable {P : Program}
end
theorem ownsW.kept {w w' : World} {e : TypeId} {sz n : Nat} {v : Value} {xs : List Value} {row : Option Nat} (h : ownsW w e sz v n xs) (hg : w.grownBy w' row) (hne : ∀ g, blkOf v = some g → some g ≠ row) : ownsW w' e sz v n xs := by
 refine ⟨h.1, ?_⟩
 rcases h.2 with hn | ⟨g, cap, cur, rfl, _, hgg, rest⟩
 ·exact .inl hn
 ·refine .inr ⟨g, cap, cur, rfl, trivial, ?_, rest⟩
  rw [hg.block g (Array.getElem?_eq_some_iff.1 hgg).1 (hne g rfl)]
  exact hgg
structure BldFr (b : Nat) (v : Value) (w w' : World) : Prop where
 os : w'.os = w.os
 tape : w'.tape = w.tape
 output : w'.output = w.output
 size : w.heap.size ≤ w'.heap.size
 block : ∀ k, k < w.heap.size → k ≠ b → blkOf v ≠ some k → w'.heap[k]? = w.heap[k]?
structure BldAt (w : World) (O : Nat → Prop) (θ : Nat → Option Value) (B : TypeId) (x : List Int) (g : Nat) (p v : Value) : Prop where
 t0 : θ 0 = some (.pointer (some ⟨g, 0, none⟩))
 t1 : θ 1 = some v
 heap : w.heap[g]? = some (.cells #[p, v] B (0, 0))
 self : p = .pointer none ∨ p = .pointer (some ⟨g, 0, none⟩)
 own : ownsW w 5 1 v x.length (x.map (.int .u8))
 og : O g
 ov : ∀ k, blkOf v = some k → O k ∧ k < w.heap.size
end Go.Abs

/- Values that hold rows of the call's own among their cells. -/
namespace Go.Abs
variable {G : List (Nat × List PV)}
open Go.RowKit
structure ReadsA (w : World) (O : Nat → Prop) (θ : Nat → Option Value) (us : List Value) (cells : List AV) : Prop where
 len : us.length = cells.length
 one : ∀ (j : Nat) (u : Value), us[j]? = some u → u.oneCell' = true
 rd : ∀ (j : Nat) (c : AV) (u : Value), cells[j]? = some c → us[j]? = some u → RdA w O θ c u
theorem ReadsA.agg {w : World} {O : Nat → Prop} {θ : Nat → Option Value} {us : List Value} {cells : List AV} (h : ReadsA w O θ us cells) : RdA w O θ (.agg cells) (.agg us.toArray) :=
 .agg _ _ (by simpa using h.len) (fun j u hu => h.one j u (by simpa using hu)) (fun j c u hc hu => h.rd j c u hc (by simpa using hu))
theorem ReadsA.cut {w : World} {O : Nat → Prop} {θ : Nat → Option Value} {us : List Value} {cells : List AV} (h : ReadsA w O θ us cells) (k n : Nat) : ReadsA w O θ ((us.drop k).take n) ((cells.drop k).take n) where
 len := by rw [List.length_take, List.length_take, List.length_drop, List.length_drop, h.len]
 one := fun j u hu => by
  rw [List.getElem?_take] at hu
  split at hu
  ·rw [List.getElem?_drop] at hu; exact h.one _ u hu
  ·cases hu
 rd := fun j c u hc hu => by
  rw [List.getElem?_take] at hc hu
  split at hc
  ·rename_i hj
   rw [if_pos hj, List.getElem?_drop] at hu
   rw [List.getElem?_drop] at hc
   exact h.rd _ c u hc hu
  ·cases hc
theorem ReadsA.splice {w : World} {O : Nat → Prop} {θ : Nat → Option Value} {us vs : List Value} {ps qs : List AV} {k : Nat} (h : ReadsA w O θ us ps) (h' : ReadsA w O θ vs qs) (hk : k + qs.length ≤ ps.length) : ReadsA w O θ (Go.Abs.splice us k vs) (Go.Abs.splice ps k qs) := by
 have hk' : k + vs.length ≤ us.length := by rw [h'.len, h.len]; exact hk
 refine ⟨by rw [splice_length _ _ _ hk', splice_length _ _ _ hk]; exact h.len, fun j u hu => ?_, fun j p u hp hu => ?_⟩
 ·rw [splice_get _ _ _ hk'] at hu
  split at hu
  ·exact h'.one _ u hu
  ·exact h.one _ u hu
 ·rw [splice_get _ _ _ hk] at hp
  rw [splice_get _ _ _ hk', h'.len] at hu
  split at hp
  ·rename_i hj; rw [if_pos hj] at hu; exact h'.rd _ p u hp hu
  ·rename_i hj; rw [if_neg hj] at hu; exact h.rd _ p u hp hu
theorem readsA_of_pv {w : World} {O : Nat → Prop} {θ : Nat → Option Value} {us : List Value} {ps : List PV} (h : Reads1 w O us ps) (h1 : ∀ (j : Nat) (u : Value), us[j]? = some u → u.oneCell' = true) : ReadsA w O θ us (ps.map .pv) where
 len := by simpa using h.1
 one := h1
 rd := fun j c u hc hu => by
  rw [List.getElem?_map, Option.map_eq_some_iff] at hc
  obtain ⟨p, hp, rfl⟩ := hc
  exact .pv _ _ (h.2.2 j p u hp hu)
def fillAV (place : List (Nat × Nat)) : List AV → List (Nat × AV) → Option (List AV)
 | cells, [] => some cells
 | cells, (i, v) :: vs => match place[i]? with
  | some (off, size) => bif Nat.beq v.cells.length size && (v.cellish && Nat.ble (off + v.cells.length) cells.length) then fillAV place (splice cells off v.cells) vs else none
  | none => none
section
variable {ro : Option Nat} {P : Program} {c : Cx G} {s s' : St} {o : Oper} {d : Option Nat}
theorem freshG_free {k : Nat} (h : s.free.elem k = true) : freshG s k = true := by simp only [freshG, h, Bool.or_true]
theorem op_load_lp_aggM {T n : Nat} {x : Operand} {id k : Nat} {t : TypeId} {cells cs : List AV} (ho : o.op = .load T x) (hx : ev s x = some (.lp id k)) (hb : look id s.hp = some (.box t cells))
  (hc : (cells.drop k).take n = cs) (hl : cs.length = n) (ht : aggB P T n = true) (hd : o.dst = d) (hn : dOk s d = true) :
  OpOk ro P c o s (s.put d (some (.agg cs))) :=
 opOk_value hd hn (by rw [ho]; intro k h; cases h) fun a w O θ hs => by
  have h := ev_ok hs hx
  generalize hv : a.eval x = u at h
  cases h with
  | lp _ _ g h =>
   obtain ⟨v', hv', ⟨g', us, he, h1, h2, h3⟩, _⟩ := hs.hp id _ hb
   rw [h] at hv'; cases hv'
   cases he
   have hR : ReadsA w O θ us.toList cells := ⟨by simpa using h2, fun j u hu => by
     have hlt : j < cells.length := by rw [← h2]; simpa using (List.getElem?_eq_some_iff.1 hu).1
     exact (h3 j cells[j] u (List.getElem?_eq_getElem hlt) (by simpa using hu)).2, fun j c u hc hu => (h3 j c u hc (by simpa using hu)).1⟩
   have hlen : k + n ≤ us.size ∨ n = 0 := by
    have : ((cells.drop k).take n).length = n := by rw [hc]; exact hl
    rw [List.length_take, List.length_drop, ← h2] at this
    omega
   have hcut := hR.cut k n
   rw [hc] at hcut
   refine ⟨.agg ((us.toList.drop k).take n).toArray, ?_, hcut.agg⟩
   have := run_loadAt_agg (P := P) ht w ⟨g, k, none⟩ ((us.toList.drop k).take n) (by simp; omega) (fun j u hu => ?_)
   ·simp [execOp, ho, hv, this]
   ·rw [List.getElem?_take] at hu
    split at hu
    ·rw [List.getElem?_drop] at hu
     rw [Addr.add_lit, cell_of_row w g _ us t (0, 0) h1]
     simpa using hu
    ·cases hu
theorem fill_okA {place : List (Nat × Nat)} {pf : Nat → Option (Nat × Nat)} (hpf : ∀ i p, place[i]? = some p → pf i = some p) {O : Nat → Prop} {θ : Nat → Option Value} {a : Act} {w : World} (hs : SimAt c s O θ a w) :
  ∀ (parts : List (Nat × Operand)) (xs : List (Nat × AV)) (cells : List AV) (us : Array Value) (r : List AV), EvL w O θ a.eval parts xs → fillAV place cells xs = some r → ReadsA w O θ us.toList cells →
  ∃ us', Instr.fill pf us (parts.map fun (i, x) => (i, a.eval x)) = some us' ∧ ReadsA w O θ us'.toList r
 | [], xs, cells, us, r, h1, h2, h3 => by
  cases xs with
  | cons _ _ => cases h1
  | nil =>
  simp [fillAV] at h2; subst h2
  exact ⟨us, rfl, h3⟩
 | (i, x) :: parts, xs, cells, us, r, h1, h2, h3 => by
  cases xs with
  | nil => cases h1
  | cons xv vs =>
  obtain ⟨i', v⟩ := xv
  obtain ⟨rfl, hv, hvs⟩ := h1
  simp only [fillAV] at h2
  split at h2
  ·rename_i off size hpl
   simp only [cond_eq_ite] at h2
   split at h2
   ·rename_i hc
    simp only [Bool.and_eq_true] at hc
    have hc1 : v.cells.length = size := Nat.eq_of_beq_eq_true hc.1
    have hc2 : off + v.cells.length ≤ cells.length := Nat.le_of_ble_eq_true hc.2.2
    obtain ⟨q1, q2, q3⟩ := AV.cells_ok hv hc.2.1 hs.one
    have hr1 : ReadsA w O θ (a.eval x).cells.toList v.cells := ⟨by simpa using q1, fun j u hu => q2 u (List.mem_of_getElem? hu), fun j c u hc hu => q3 j c u hc (by simpa using hu)⟩
    have hsz : (a.eval x).cells.size = size := by rw [q1, hc1]
    have hus : us.size = cells.length := by have := h3.len; simpa using this
    have hsp := foldl_splice (a.eval x).cells off us (by omega)
    obtain ⟨us', e1, e2⟩ := fill_okA hpf hs parts vs _ ((a.eval x).cells.zipIdx.foldl (fun cs (c, j) => cs.setIfInBounds (off + j) c) us) r hvs h2 (by rw [hsp]; exact h3.splice hr1 hc2)
    refine ⟨us', ?_, e2⟩
    simp only [List.map_cons, Instr.fill, hpf _ _ hpl]
    rw [if_neg (by simp [hsz]; omega)]
    exact e1
   ·cases h2
  ·cases h2
theorem czs_one {vs : List Value} {ps : List PV} (h : czs vs ps) : ∀ (j : Nat) (u : Value), vs[j]? = some u → u.oneCell' = true := by
 obtain ⟨h1, h2⟩ := czs_spec h
 intro j u hu
 have hlt : j < ps.length := by have := (List.getElem?_eq_some_iff.1 hu).1; omega
 exact (cz_one (h2 j _ u (List.getElem?_eq_getElem hlt) hu)).2
theorem op_buildM {T : Nat} {parts : List (Nat × Operand)} {place : List (Nat × Nat)} {z : Value} {zs : List PV} {r : List AV} {xs : List (Nat × AV)} (ho : o.op = .build T parts.toArray) (hz : zeroIs P T z) (hzs : czs z.cells.toList zs) (hpl : placesB P T place = true)
  (hx : evs s parts = some xs) (hr : fillAV place (zs.map .pv) xs = some r) (hd : o.dst = d) (hn : dOk s d = true) : OpOk ro P c o s (s.put d (some (.agg r))) :=
 opOk_value hd hn (by rw [ho]; intro k h; cases h) fun a w O θ hs => by
  obtain ⟨fs, hu, hfs⟩ := placesB_spec hpl
  obtain ⟨us', h1, h2⟩ := fill_okA (place := place) (pf := (place[·]?)) (fun _ _ h => h) hs parts xs (zs.map .pv) z.cells r (EvL.of hs hx) hr (readsA_of_pv (czs_reads1 hzs) (czs_one hzs))
  refine ⟨.agg us', ?_, ?_⟩
  ·have hfs' := hfs w
   simp only [bind_pure_comp] at hfs'
   simp [execOp, ho, Instr.build, (zeroIs_spec hz w).1, run_underlying hu, hfs', h1]
  ·have := h2.agg; simpa using this
end
theorem imp_any {c : Cx G} {s : St} (id off : Nat) {t : TypeId} {cells : List AV} (hb : look id s.hp = some (.box t cells)) : Imp c s (s.setBlk id (some (.box t (cells.set off .any)))) := by
 rintro a w ⟨O, θ, h⟩
 refine ⟨O, θ, ?_⟩
 obtain ⟨v, hv, hbk, _⟩ := h.hp id _ hb
 refine h.upd (w' := w) hb hv (World.grownBy.refl _ _) ?_
 obtain ⟨g, us, rfl, h1, h2, h3⟩ := hbk
 refine ⟨g, us, rfl, h1, by simpa using h2, fun j x u hx hu => ?_⟩
 by_cases hj : off = j
 ·subst hj
  have hlt : off < cells.length := by rw [← h2]; exact (Array.getElem?_eq_some_iff.1 hu).1
  rw [List.getElem?_set_self hlt] at hx
  cases hx
  exact ⟨.any u, (h3 off cells[off] u (List.getElem?_eq_getElem hlt) hu).2⟩
 ·rw [List.getElem?_set_ne hj] at hx
  exact h3 j x u hx hu
end Go.Abs

/- From the arguments' readings to abstract values; a law's row, out of its contract. -/
namespace Go.Abs
variable {G : List (Nat × List PV)}
open Go.ChangeShapes Go.WideShapes Go.ChangeAt Go.RowKit
section
variable {H : Type} (enc : TypeId × Value → H) (P : Program) (w : World)
def DecAt (fuel : Nat) (T : TypeId) {α : Type} (e : α → List PV) (good : α → Prop) : Prop :=
 ∀ (cs : List Value) (x : DataW H × List MemPlace), DataW.trod enc P w 0 (fun _ => true) true fuel T cs = some x → ∃ y, good y ∧ Reads1 w (fun _ => False) cs (e y)
variable {enc P w}
theorem reads1_one {v : Value} {p : PV} (h : Rd w (fun _ => False) p v) (hp : p.one = true) : Reads1 w (fun _ => False) [v] [p] := by
 refine ⟨rfl, by simpa using hp, fun j q u hq hu => ?_⟩
 cases j with
 | zero => simp at hq hu; subst hq; subst hu; exact h
 | succ j => simp at hq
theorem dec_bool {fuel T : Nat} (h : P.underlying T = some .bool) : DecAt enc P w fuel T eB (fun _ => True) := fun cs x hx => by
 obtain ⟨b, rfl, _⟩ := DataW.trod_bool h hx
 exact ⟨b, trivial, reads1_one (.bool b) rfl⟩
def i64ok (n : Int) : Prop := -9223372036854775808 ≤ n ∧ n ≤ 9223372036854775807
theorem dec_int {fuel T : Nat} (h : P.underlying T = some (.int .i64)) : DecAt enc P w fuel T eI i64ok := fun cs x hx => by
 obtain ⟨n, rfl, _, hw⟩ := DataW.trod_int h hx
 exact ⟨n, bounds_i64 hw, reads1_one (.int _ n) rfl⟩
def strok (s : List UInt8) : Prop := s.length ≤ maxLen
def listok {α : Type} (good : α → Prop) (l : List α) : Prop := l.length ≤ maxLen ∧ ∀ y ∈ l, good y
def partsB (P : Program) (T : TypeId) (l : List (TypeId × Nat × Nat)) (n : Nat) : Bool :=
 match P.underlying T with
 | some (.struct fs) => (fs.toList.map (fun f => (f.type, f.offset, P.cellsOf f.type)) == l) && P.cellsOf T == n
 | _ => false
theorem reads_nil {cs : List Value} {off : Nat} (h : cs.length = off) : Reads1 w (fun _ => False) (cs.drop off) [] := by
 rw [List.drop_eq_nil_of_le (by omega)]
 exact ⟨rfl, by simp, fun j p u hp => by simp at hp⟩
theorem reads_cons {cs : List Value} {off sz : Nat} {p q : List PV} (h1 : Reads1 w (fun _ => False) ((cs.drop off).take sz) p) (hp : p.length = sz) (h2 : Reads1 w (fun _ => False) (cs.drop (off + sz)) q) : Reads1 w (fun _ => False) (cs.drop off) (p ++ q) := by
 have e : cs.drop off = (cs.drop off).take sz ++ cs.drop (off + sz) := by
  rw [← List.drop_drop, List.take_append_drop]
 rw [e]
 have hl : ((cs.drop off).take sz).length = sz := by rw [h1.1, hp]
 refine ⟨by rw [List.length_append, List.length_append, h1.1, h2.1], fun x hx => ?_, fun j x u hx hu => ?_⟩
 ·rcases List.mem_append.1 hx with h | h
  ·exact h1.2.1 x h
  ·exact h2.2.1 x h
 ·rw [List.getElem?_append] at hx hu
  rw [hl] at hu; rw [hp] at hx
  split at hx
  ·rename_i hj; rw [if_pos hj] at hu; exact h1.2.2 j x u hx hu
  ·rename_i hj; rw [if_neg hj] at hu; exact h2.2.2 _ x u hx hu
def arrB (P : Program) (T : TypeId) (n E sz : Nat) : Bool :=
 match P.underlying T with
 | some (.array m e) => (m == n && e == E) && (P.cellsOf E == sz && P.cellsOf T == n * sz)
 | _ => false
end
end Go.Abs
namespace Go.Abs
variable {G : List (Nat × List PV)}
theorem reads0 {w : World} {cs : List Value} {p : List PV} (h : Reads1 w (fun _ => False) (cs.drop 0) p) : Reads1 w (fun _ => False) cs p := by simpa using h
end Go.Abs
namespace Go.Abs
variable {G : List (Nat × List PV)}
open Go.ChangeShapes Go.WideShapes Go.ChangeAt Go.RowKit
section
variable {H : Type} {enc : TypeId × Value → H} {P : Program} {w : World}
end
end Go.Abs

/- A law's row, out of its contract. -/
namespace Go.Abs
variable {G : List (Nat × List PV)}
open Go.ChangeShapes Go.WideShapes Go.ChangeAt Go.RowKit
section
variable {H : Type} {enc : TypeId × Value → H} {P : Program}
def readB (P : Program) (ts : List TypeId) : Bool := ts.all fun t => P.readableRec t && decide (t < P.types.size)
theorem trodAll_carry (hl : laidOutB P = true) {W W' : World} (hb : Below W.heap.size W W') : ∀ {ts : List TypeId} {vs : List Value} {ds : List (DataW H)} {ps : List MemPlace}, readB P ts = true → DataW.TrodAll enc P W 0 (fun _ => true) true ts vs ds ps → (∀ x ∈ ps, x.block < W.heap.size) →
  DataW.TrodAll enc P W' 0 (fun b => decide (b < W.heap.size)) true ts vs ds ps
 | [], vs, ds, ps, _, h, _ => by
  obtain ⟨rfl, rfl, rfl⟩ := trodAll_nil h
  rfl
 | t :: ts, vs, ds, ps, hr, h, hlt => by
  obtain ⟨v, vs', d, ds', p, q, rfl, rfl, rfl, h1, h2⟩ := trodAll_cons h
  unfold readB at hr
  rw [List.all_cons] at hr
  simp only [Bool.and_eq_true, decide_eq_true_eq] at hr
  exact ⟨p, q, Below.trod hl hr.1.1 hr.1.2 h1 hb (fun x hx => hlt x (by simp [hx])), trodAll_carry hl hb (by unfold readB; exact hr.2) h2 (fun x hx => hlt x (by simp [hx])), rfl⟩
theorem law_post {f : Func} {s : ChangeSpec} {apart fresh handsOn : Bool} {W W' : World} {args : Array Value} {ds : List (DataW H)} {ps : List MemPlace} {B : TypeId} (hl : laidOutB P = true) (hr : readB P f.params.toList = true) (hvars : s.vars = [])
  (hW : DataW.Whole enc P f.params.toList s.vars apart W args.toList ds [] ps) (hA : DataW.TrodAll enc P W 0 (fun _ => true) true f.params.toList args.toList ds ps) (hg : W.grownBy W' none) (hres : f.resultTypes = #[B]) (hB : P.underlying B = some .bool)
  (hs : s.fn H ds = { results := [.lit (.bool true)], args := ds }) : s.post enc P f apart fresh handsOn false W args (.bool true) W' := by
 have hb : Below W.heap.size W W' := (Below.refl _ W).grown hg (Nat.le_refl _) (by simp)
 have hlt : ∀ x ∈ ps, x.block < W.heap.size := fun x hx => by simpa using hW.lt x hx
 refine ⟨ds, [], ps, [], ps, [], hW, ?_, ?_, ?_, hb.frame _, fun h => by cases h⟩
 ·rw [List.append_nil, hs, hres]
  exact trodAll_mk1 (shut_bool hB true)
 ·rw [List.append_nil, hs]
  exact trodAll_carry hl hb hr hA hlt
 ·rw [List.append_nil, hs, hvars]
  rfl
def ArgsRd (W : World) (asx : List PV) (args : Array Value) : Prop := args.size = asx.length ∧ ∀ (i : Nat) (p : PV) (v : Value), asx[i]? = some p → args[i]? = some v → Rd W (fun _ => False) p v
end
def RdAll (W : World) : List PV → List Value → Prop
 | [], [] => True
 | p :: ps, v :: vs => Rd W (fun _ => False) p v ∧ RdAll W ps vs
 | _, _ => False
theorem RdAll.args {W : World} : ∀ {asx : List PV} {vs : List Value}, RdAll W asx vs → vs.length = asx.length ∧ ∀ (i : Nat) (p : PV) (v : Value), asx[i]? = some p → vs[i]? = some v → Rd W (fun _ => False) p v
 | [], [], _ => ⟨rfl, fun i p v h => by simp at h⟩
 | p :: ps, v :: vs, h => by
  obtain ⟨h1, h2⟩ := h.2.args
  refine ⟨by simp [h1], fun i q u hq hu => ?_⟩
  cases i with
  | zero => simp at hq hu; subst hq; subst hu; exact h.1
  | succ i => exact h2 i q u (by simpa using hq) (by simpa using hu)
 | [], _ :: _, h | _ :: _, [], h => by simp [RdAll] at h
theorem argsRd_all {W : World} {xs : List PV} {args : Array Value} (h : RdAll W xs args.toList) : ArgsRd W xs args := by
 obtain ⟨h1, h2⟩ := h.args
 exact ⟨by simpa using h1, fun i p v hp hv => h2 i p v hp (by simpa using hv)⟩
def oneT (P : Program) (T : TypeId) : Bool := match P.underlying T with
 | some .bool | some (.int _) | some .string | some (.slice _) => true
 | _ => false
theorem arg_one {W : World} {P : Program} {base : Nat} {T : TypeId} {v : Value} {p : PV} (h : Reads1 W (fun _ => False) v.cells.toList [p]) (hv : Value.okWide P W .any base T v) (ht : oneT P T = true) : Rd W (fun _ => False) p v := by
 have : v.cells.toList = [v] := by
  unfold oneT at ht
  unfold Value.okWide at hv
  split at hv
  ·rename_i hu; rw [hu] at ht; cases ht
  ·rename_i hu; rw [hu] at ht; cases ht
  ·unfold Cell.okWide at hv
   cases v <;> first | rfl | skip
   all_goals
    exfalso
    revert hv
    split <;> simp_all [Cell.ok]
    try (split <;> simp_all)
 rw [this] at h
 exact h.2.2 0 p v rfl rfl
end Go.Abs

/- A law's row whose package variables are listed, out of its contract. -/
namespace Go.Abs
variable {G : List (Nat × List PV)}
open Go.ChangeShapes Go.WideShapes Go.ChangeAt Go.RowKit
section
variable {P : Program} {w : World}
end
section
variable {H : Type} {enc : TypeId × Value → H} {P : Program}
end
end Go.Abs

/- Functions that are handed yield on; shifts; maps in boxes that are written no more. -/
namespace Go.Abs
variable {G : List (Nat × List PV)}
open Go.RowKit
def ItF (G : List (Nat × List PV)) (P : Program) (f : FuncId) (m : Nat) (args : Nat → List PV) (rows : List (List PV)) (sp k0 k1 : Nat) (res : List PV) : Prop :=
 ∀ (l : Nat) (J : Nat → (Nat → Prop) → (Nat → Prop) → World → Prop) (_ : ∀ {k : Nat} {O I : Nat → Prop} {w : World} {O' I' : Nat → Prop} {w' : World}, J k O I w → Stp O I w O' I' w' → J k O' I' w') (_ : ∀ {k : Nat} {O I : Nat → Prop} {w : World}, J k O I w → GlobOk G w O)
  (w : World) (O I : Nat → Prop) (vs : Array Value), (∀ g, O g → g < w.heap.size) → (∀ g, I g → O g) → vs.size = (args l).length →
  (∀ (i : Nat) (p : PV) (v : Value), (args l)[i]? = some p → vs[i]? = some v → Rd w O p v) → YieldOk P l m rows sp J → J k0 O I w →
  Calls P f vs w fun e w' => ∃ v O', e = .returned v ∧ J k1 O' I w' ∧ Rel O I w O' w' ∧ RdA w' O' (fun _ => none) (topW (res.map .pv)) v
structure ItFx (c : Cx G) (w : World) (O I : Nat → Prop) : Prop where
 w0 : c.w0 = w
 X : c.X = I
 K : c.K = I
 L : c.L = fun g => O g ∧ ¬ I g
def ItFPost (P : Program) (fn : Func) (c : Cx G) (w : World) (O I : Nat → Prop) (k : Nat) (res : List PV) : Exit → Act → World → Prop :=
 bodyPostM (FF none) 0 P fn fun e w' => ∃ v O', e = .returned v ∧ c.J k O' I w' ∧ Rel O I w O' w' ∧ RdA w' O' (fun _ => none) (topW (res.map .pv)) v
theorem itf_of_body {P : Program} {f : FuncId} {fn : Func} {code : Code} {n m : Nat} {args : Nat → List PV} {rows : List (List PV)} {sp k0 k1 : Nat} {res : List PV} (hf : P.funcs[f]? = some fn) (hb : fn.body = some code) (hn : fn.ntmps = n) (hl : ∀ l, Nat.ble (args l).length n = true)
  (h : ∀ l (c : Cx G) w O I, ItCx P l m rows sp c → ItFx c w O I → (∀ g, I g → O g) → AW none P c code (ItFPost P fn c w O I k1 res) { n := n, fr := argsFr 0 (args l), hp := [], next := 0, ys := k0 }) : ItF G P f m args rows sp k0 k1 res := by
 intro l J Jst JG w O I vs hO hI hsz hrd hy hJ
 refine (callsIn_wide (n := 0)).1 (callsIn_of_wp_marks (F := FF none) hf hb trivial ?_)
 have hl' : (args l).length ≤ n := Nat.le_of_ble_eq_true (hl l)
 let c : Cx G := { w0 := w, L := fun g => O g ∧ ¬ I g, X := I, K := I, J := J, Jst := Jst, JG := JG, KX := fun _ h => h, t0 := #[] }
 refine h l c w O I ⟨hy, fun g hg => hg⟩ ⟨rfl, rfl, rfl, rfl⟩ hI _ w ?_
 refine ⟨O, fun _ => none, by simp [hn]; omega, .nil, ?_, fun id b hb => (by simp [look] at hb), fun i j bi bj vi vj g hi => (by simp [look] at hi), fun id v hv => (by cases hv), fun k hk => (by cases hk), fun id v hv => (by cases hv), hO, ⟨rfl, rfl, rfl, Nat.le_refl _, fun _ _ _ => rfl⟩, hI, fun g hg => hO g (hI g hg), fun g hg => hO g hg.1, fun d hd => (by cases hd), fun g hg _ => ?_, fun t ht => (by cases ht), ?_⟩
 ·intro t x hx
  obtain ⟨p, rfl, _, hp⟩ := argsFr_look (args l) 0 t x hx
  have hp' : (args l)[t]? = some p := by simpa using hp
  have ht : t < vs.size := by rw [hsz]; exact (List.getElem?_eq_some_iff.1 hp').1
  have hv : vs[t]? = some vs[t] := by simp [ht]
  have : (vs ++ Array.replicate (fn.ntmps - vs.size) undef).getD t undef = vs[t] := by
   simp [Array.getElem?_append, ht]
  rw [this]
  exact .pv _ _ (hrd t p _ hp' hv)
 ·by_cases h1 : I g
  ·exact .inl h1
  ·exact .inr ⟨hg, h1⟩
 ·refine Jst hJ ⟨rfl, rfl, rfl, Nat.le_refl _, fun _ _ _ => rfl, fun g h => .inl h, fun g h _ => h, hO, fun g hI => ?_⟩
  rcases hI with hI | ⟨id, b, v, h1, _⟩ | ⟨d, hd, _⟩
  ·exact .inl hI
  ·simp [look] at h1
  ·cases hd
section
variable {ro : Option Nat} {P : Program} {c : Cx G} {s s' : St} {o : Oper} {d : Option Nat}
theorem post_itf {fn : Func} {k : Nat} {w0 : World} {O0 I : Nat → Prop} {rvs : List ResultVar} {res : List PV} {e : Exit} (hc : ItFx c w0 O0 I) (hI : ∀ g, I g → O0 g) (hk : s.ys = k) (hr : fn.results = rvs.toArray) (h : RWs P s rvs (res.map .pv)) (he : e = .ret ∨ e = .normal) :
  Post c (ItFPost P fn c w0 O0 I k res) e s := by
 rintro a w ⟨O, θ, hs⟩
 have key : LeavesInM (FF none) 0 P fn a.tmps (fun e w' => ∃ v O', e = .returned v ∧ c.J k O' I w' ∧ Rel O0 I w0 O' w' ∧ RdA w' O' (fun _ => none) (topW (res.map .pv)) v) a.defers .returning w := by
  refine leaves_marks a.defers a w rfl hs fun a' w' ht hs2 => ?_
  obtain ⟨us, h1, h2, h3⟩ := h.run hs2
  rw [ht] at h1
  obtain ⟨q1, q2, q3, q4⟩ := hc
  have he := hs2.ext
  rw [q1, q4] at he
  have hrd : ∀ (i : Nat) (p : PV) (u : Value), res[i]? = some p → us[i]? = some u → Rd w' O p u := fun i p u hp hu => rda_pv (h3 i (.pv p) u (by rw [List.getElem?_map, hp]; rfl) hu)
  refine ⟨_, run_results hr h1, _, O, rfl, ?_, ⟨he.os, he.tape, he.output, he.size, fun b hb hn => he.block b hb (fun h => ?_), fun g hg => ?_, fun g h1 h2 => hs2.xo g (by rw [q2]; exact h2), hs2.olt⟩, ?_⟩
  ·rw [← hk]
   exact c.Jst hs2.jn ⟨rfl, rfl, rfl, Nat.le_refl _, fun _ _ _ => rfl, fun g h => .inl h, fun g h _ => h, hs2.olt, fun g hg => .inl (.inl (by rw [q3]; exact hg))⟩
  ·rcases hn with hn | hn
   ·exact hn h.1
   ·exact h.2 hn
  ·rcases Nat.lt_or_ge g w0.heap.size with hlt | hge
   ·rcases hs2.oc g hg (by rw [q1]; exact hlt) with h5 | h5
    ·rw [q2] at h5; exact .inl (hI g h5)
    ·rw [q4] at h5; exact .inl h5.1
   ·exact .inr hge
  ·match res, us, h2, hrd with
   | [r], [u], _, h3 => exact .pv _ _ (h3 0 r u rfl rfl)
   | [], [], _, h3 => exact .tup [] #[] rfl (by simp)
   | r :: r' :: rs, u :: u' :: us, h2, h3 =>
    refine .tup _ _ (by simpa using h2) (fun i r u hr hu => ?_)
    rw [show AV.pv _ :: List.map AV.pv (r' :: rs) = List.map AV.pv (_ :: r' :: rs) from rfl, List.getElem?_map, Option.map_eq_some_iff] at hr
    obtain ⟨p, hp, rfl⟩ := hr
    exact .pv _ _ (h3 i p u hp (by simpa using hu))
 rcases he with rfl | rfl
 ·exact key
 ·exact key
theorem op_callY {args : Nat → List PV} {fo : Operand} {xs : List Operand} {ts : Array TypeId} {f l m sp k1 : Nat} {rows : List (List PV)} {res : List PV} (hc : ItCx P l m rows sp c) (ho : o.op = .call { callee := .value fo, args := xs.toArray, argTypes := ts }) (hf : ev s fo = some (.pv (.fn f []))) (hx : evl s xs = some ((args l).map .pv))
  (hB : callB P f = true) (h : ItF G P f m args rows sp s.ys k1 res) (hd : o.dst = d) (hn : dOk s d = true) : OpOk ro P c o s ({ s with ys := k1 }.put d (some (topW (res.map .pv)))) := by
 rintro a w ⟨O, θ, hs⟩ K Q hK
 obtain ⟨e1, e2⟩ := evl_ok hs hx
 have hfv := ev_pv hs hf
 generalize hfa : a.eval fo = fv at hfv
 cases hfv with
 | fn _ _ us hn' hh =>
  refine ⟨fun f _ => trivial, ?_⟩
  have hus : us = #[] := by
   have : us.size = 0 := hn'
   exact Array.size_eq_zero_iff.1 this
  subst hus
  have hrun : (execOp a.eval o).run P w = .ok (.enter f ((xs.map a.eval).toArray)) w := by
   simp [execOp, ho, resolve, Deferred.ofValue, hfa, invoke, callB_spec hB]
  rw [Oper.semAt_plain _ _ _ (by rw [ho]; intro k h; cases h), hrun]
  refine ⟨fun h => by simp [FF, Fence.wide] at h, ?_⟩
  have hI : c.J s.ys O (fun g => Mine c s θ a.defers g ∧ O g) w := c.Jst hs.jn ⟨rfl, rfl, rfl, Nat.le_refl _, fun _ _ _ => rfl, fun g h => .inl h, fun g h _ => h, hs.olt, fun g h => .inl h.1⟩
  have hcall := h l c.J c.Jst c.JG w O (fun g => Mine c s θ a.defers g ∧ O g) (xs.map a.eval).toArray hs.olt (fun g h => h.2) (by have := e1; simp at this; simp [this]) (fun i p v hp hv => by
   exact rda_pv (e2 i (.pv p) v (by rw [List.getElem?_map, hp]; rfl) (by simpa using hv))) hc.y hI
  refine CallsIn.mono (callsIn_wide (n := 0 - 1).2 hcall) ?_
  rintro e w' ⟨v, O', rfl, hJ, hrel, hr⟩
  have hO := hrel.stp_hp
  have hmine : ∀ g, Mine c s θ a.defers g → O g := by
   intro g hg
   rcases hg with hg | ⟨id, b, v, h1, h2, h3⟩ | ⟨d', h1, h2⟩
   ·exact hs.xo g (c.KX g hg)
   ·obtain ⟨v', hv', _, hgv⟩ := hs.hp id b h1
    rw [h2] at hv'; cases hv'
    exact (hgv g h3).1
   ·obtain ⟨D, rfl, _, hOD, _⟩ := hs.marks d' h1
    cases h2; exact hOD
  have h1 : SimAt c { s with ys := k1 } O' θ a w' := by
   refine ⟨hs.size, hs.df, fun t x hx => (hs.fr t x hx).mono hrel.size hO (fun _ _ e => e), fun id b hb => ?_, hs.inj, hs.dom, hs.flt, hs.one, hrel.olt, ⟨hrel.os.trans hs.ext.os, hrel.tape.trans hs.ext.tape, hrel.output.trans hs.ext.output, Nat.le_trans hs.ext.size hrel.size, fun b hb hL => ?_⟩, fun g hg => hrel.o2 g (hs.xo g hg) ⟨.inl (hc.xk g hg), hs.xo g hg⟩, hs.xlt, hs.llt, fun d' hd' => ?_, fun g hg hlt => ?_, hs.kp, c.Jst hJ ⟨rfl, rfl, rfl, Nat.le_refl _, fun _ _ _ => rfl, fun g h => .inl h, fun g h _ => h, hrel.olt, fun g h => .inl ⟨h, hmine g h⟩⟩⟩
   ·obtain ⟨v, hv, hbo, hgv⟩ := hs.hp id b hb
    refine ⟨v, hv, hbo.mono hrel.size hO (fun _ _ e => e) (fun g hgg => hrel.block g (hgv g hgg).2.1 (.inr ⟨.inr (.inl ⟨id, b, v, hb, hv, hgg⟩), (hgv g hgg).1⟩)), fun g hgg => ?_⟩
    obtain ⟨g1, g2, g3⟩ := hgv g hgg
    exact ⟨hrel.o2 g g1 ⟨.inr (.inl ⟨id, b, v, hb, hv, hgg⟩), g1⟩, Nat.lt_of_lt_of_le g2 hrel.size, g3⟩
   ·rw [← hs.ext.block b hb hL]
    refine hrel.block b (Nat.lt_of_lt_of_le hb hs.ext.size) ?_
    by_cases hOb : O b
    ·right
     rcases hs.oc b hOb hb with hX | hL2
     ·exact ⟨.inl (hc.xk b hX), hOb⟩
     ·exact absurd hL2 hL
    ·exact .inl hOb
   ·obtain ⟨D, rfl, hD, hOD, h0⟩ := hs.marks d' hd'
    have hlt : D < w.heap.size := by
     rcases Nat.lt_or_ge D w.heap.size with h1 | h1
     ·exact h1
     ·rw [Array.getElem?_eq_none h1] at hD; cases hD
    have hm' : Mine c s θ a.defers D := .inr (.inr ⟨_, hd', rfl⟩)
    exact ⟨D, rfl, by rw [hrel.block D hlt (.inr ⟨hm', hOD⟩)]; exact hD, hrel.o2 D hOD ⟨hm', hOD⟩, h0⟩
   ·rcases hrel.o1 g hg with h | h
    ·exact hs.oc g h hlt
    ·have := hs.ext.size; omega
  subst hd
  exact hK _ _ ⟨O', θ, h1.put _ _ _ (dOk_lt (s := s) hn) (dOk_kt (s := s) hn) (hr.mono (Nat.le_refl _) (fun _ _ hn => ⟨hn, rfl⟩) (fun _ _ h => by cases h))⟩
theorem imp_freeze_inD (fz : List (Nat × Option Blk)) (new : List (Nat × Option AV)) (bid off id : Nat) {T t n : Nat} {m : List UInt8 → Option Int} {cells : List AV} (hfz : ∀ x ∈ fz, ∃ b, x.2 = some b ∧ look x.1 s.hp = some b) (hF : FzF s fz new)
  (hb : look bid (s.freeze fz new).hp = some (.box T cells)) (hc : cells[off]? = some (.ls id)) (hid : look id fz = some (.dict P t n m)) : Imp c s ((s.freeze fz new).setBlk bid (some (.box T (cells.set off (.pv (.mpv P t m)))))) := by
 rintro a w ⟨O, θ, h⟩
 have h' := h.frozen fz new hfz hF
 have hfz' : ∀ id b, look id fz = some b → look id s.hp = some b := by
  intro id b hl
  obtain ⟨b', h1, h2⟩ := hfz _ (look_mem hl)
  cases h1; exact h2
 refine ⟨(fun g => O g ∧ ∀ id b u, look id s.hp = some b → (id, some b) ∈ fz → θ id = some u → blkOf u ≠ some g), θ, ?_⟩
 obtain ⟨v, hv, ⟨g, us, rfl, k1, k2, k3⟩, k4⟩ := h'.hp bid _ hb
 refine h'.upd hb hv (World.grownBy.refl w _) ⟨g, us, rfl, k1, by simpa using k2, fun j x u hx hu => ?_⟩
 rw [List.getElem?_set] at hx
 split at hx
 ·rename_i e; subst e
  split at hx
  ·cases hx
   obtain ⟨m1, m2⟩ := k3 off _ u hc hu
   cases m1 with
   | ls _ _ m1 =>
    refine ⟨.pv _ _ (view_dict h hfz' (fun _ h => h.1) ?_ m1 hid), m2⟩
    rintro id b u g h1 h2 h3 ⟨_, h4⟩
    exact h4 id b u (hfz' _ _ h1) (look_mem h1) h2 h3
  ·cases hx
 ·exact k3 j x u hx hu
def shlI (k : IntKind) (x n : Int) : Option Int := if 0 ≤ n then some (k.wrap (x * 2 ^ min n.toNat k.bits)) else none
theorem op_shl {T T' : TypeId} {x y : Operand} {k k' : IntKind} {m n r : Int} (ho : o.op = .binOp .shl T x y T') (hx : ev s x = some (.pv (.int k m))) (hy : ev s y = some (.pv (.int k' n)))
  (hr : shlI k m n = some r) (hd : o.dst = d) (hn : dOk s d = true) : OpOk ro P c o s (s.put d (some (.pv (.int k r)))) :=
 opOk_value hd hn (by rw [ho]; intro k h; cases h) fun a w O θ hs => by
  have e1 := ev_int hs hx
  have e2 := ev_int hs hy
  unfold shlI at hr
  split at hr
  ·rename_i h0
   cases hr
   have h1 : ¬ n < 0 := by omega
   exact ⟨_, by simp [execOp, ho, eqGuard, binOp, e1, e2, Op.shift, h1], .pv _ _ (.int _ _)⟩
  ·cases hr
end
end Go.Abs

/- Steps that often come together. -/
namespace Go.Abs
variable {G : List (Nat × List PV)}
open Go.RowKit
def pickF {α : Type} (fr : List (Nat × Option α)) : List (Nat × Option α) → List (Nat × Option α)
 | [] => []
 | (t, none) :: l => (t, none) :: pickF fr l
 | (t, some _) :: l => (t, look t fr) :: pickF fr l
def renF (ρ : Nat → Nat) : List (Nat × Option AV) → List (Nat × Option AV)
 | [] => []
 | (t, none) :: l => (t, none) :: renF ρ l
 | (t, some x) :: l => (t, some (x.map ρ)) :: renF ρ l
def pickH (fr : List (Nat × Option Blk)) (ρ : Nat → Nat) : List (Nat × Option Blk) → List (Option Blk)
 | [] => []
 | (_, none) :: l => none :: pickH fr ρ l
 | (t, some _) :: l => look (ρ t) fr :: pickH fr ρ l
def renH (ρ : Nat → Nat) : List (Nat × Option Blk) → List (Option Blk)
 | [] => []
 | (_, none) :: l => none :: renH ρ l
 | (_, some x) :: l => some (x.map ρ) :: renH ρ l
theorem subF_of {fr : List (Nat × Option AV)} {ρ : Nat → Nat} : ∀ {l : List (Nat × Option AV)}, pickF fr l = renF ρ l → SubF fr ρ l
 | [], _ => trivial
 | (_, none) :: l, h => by simp only [pickF, renF, List.cons.injEq] at h; exact subF_of (l := l) h.2
 | (_, some _) :: l, h => by
  simp only [pickF, renF, List.cons.injEq, Prod.mk.injEq] at h
  exact ⟨h.1.2, subF_of (l := l) h.2⟩
theorem subH_of {fr : List (Nat × Option Blk)} {ρ : Nat → Nat} : ∀ {l : List (Nat × Option Blk)}, pickH fr ρ l = renH ρ l → SubH fr ρ l
 | [], _ => trivial
 | (_, none) :: l, h => by simp only [pickH, renH, List.cons.injEq] at h; exact subH_of (l := l) h.2
 | (_, some _) :: l, h => by
  simp only [pickH, renH, List.cons.injEq] at h
  exact ⟨h.1, subH_of (l := l) h.2⟩
section
variable {ro : Option Nat} {P : Program} {c : Cx G} {Q : Exit → Act → World → Prop} {s : St} {all : List Oper} {e : Exit}
theorem impz {s s' : St} (L : List Nat) (hF : pickF s.fr s'.fr = renF (fun i => L.getD i s.next) s'.fr := by kernel_rfl) (hH : pickH s.hp (fun i => L.getD i s.next) s'.hp = renH (fun i => L.getD i s.next) s'.hp := by kernel_rfl)
  (hn : s'.n = s.n := by exact rfl) (hnd : L.Nodup := by decide) (hnext : s'.next = L.length := by exact rfl) (hfree : s'.free = [] := by exact rfl)
  (hids : (s'.hp.all fun x => Nat.blt x.1 L.length) = true := by exact rfl) (hys : s'.ys = s.ys := by exact rfl) (hkt : s'.kt = s.kt := by exact rfl) : Imp c s s' := imp_sub L hn hnd hnext hfree (subF_of hF) (subH_of hH) hids hys hkt
theorem piz (s' : St) (L : List Nat) (h' : Post c Q e s') (hF : pickF s.fr s'.fr = renF (fun i => L.getD i s.next) s'.fr := by kernel_rfl) (hH : pickH s.hp (fun i => L.getD i s.next) s'.hp = renH (fun i => L.getD i s.next) s'.hp := by kernel_rfl)
  (hn : s'.n = s.n := by exact rfl) (hnd : L.Nodup := by decide) (hnext : s'.next = L.length := by exact rfl) (hfree : s'.free = [] := by exact rfl)
  (hids : (s'.hp.all fun x => Nat.blt x.1 L.length) = true := by exact rfl) (hys : s'.ys = s.ys := by exact rfl) (hkt : s'.kt = s.kt := by exact rfl) : Post c Q e s := post_imp (imp_sub L hn hnd hnext hfree (subF_of hF) (subH_of hH) hids hys hkt) h'
class FldI (P : Program) (T f : Nat) (off : outParam Nat) : Prop where
 h : fieldB P T f off = true
class OneI (P : Program) (T : Nat) : Prop where
 h : oneB P T = true
class SlcI (P : Program) (T : Nat) (e sz : outParam Nat) : Prop where
 h : sliceB P T e sz = true
class AggI (P : Program) (T : Nat) (n : outParam Nat) : Prop where
 h : aggB P T n = true
 h0 : oneB P T = false
section
variable {rest : List Oper} {o : Oper} {s' : St} {d : Option Nat}
theorem gf_lp {T f off : Nat} {x : Operand} {id k : Nat} [F : FldI P T f off] (ho : o.op = .fieldAddr T x f) (hx : ev s x = some (.lp id k)) (hd : o.dst = d) (hn : dOk s d = true) : OpOk ro P c o s (s.put d (some (.lp id (k + off)))) := op_field_lp ho hx F.h hd hn
theorem gf_vp {T f off : Nat} {x : Operand} {row : List PV} [F : FldI P T f off] (ho : o.op = .fieldAddr T x f) (hx : ev s x = some (.pv (.vp row))) (hd : o.dst = d) (hn : dOk s d = true) : OpOk ro P c o s (s.put d (some (.pv (.vp (row.drop off))))) := op_field_vp ho hx F.h hd hn
theorem gl_lp {T : Nat} {x : Operand} {id k : Nat} {t : TypeId} {cells : List AV} {v : AV} [F : OneI P T] (ho : o.op = .load T x) (hx : ev s x = some (.lp id k)) (hb : look id s.hp = some (.box t cells)) (hc : cells[k]? = some v) (hd : o.dst = d) (hn : dOk s d = true) : OpOk ro P c o s (s.put d (some v)) := op_load_lp ho hx hb hc F.h hd hn
theorem gl_vp {T : Nat} {x : Operand} {row : List PV} {p : PV} [F : OneI P T] (ho : o.op = .load T x) (hx : ev s x = some (.pv (.vp row))) (hp : row[0]? = some p) (hd : o.dst = d) (hn : dOk s d = true) : OpOk ro P c o s (s.put d (some (.pv p))) := op_load_vp ho hx hp F.h hd hn
theorem gs_one {T : Nat} {x y : Operand} {id k : Nat} {t : TypeId} {cells : List AV} {v : AV} [F : OneI P T] (ho : o.op = .store T x y) (hx : ev s x = some (.lp id k)) (hy : ev s y = some v) (hc : v.cellish = true) (hb : look id s.hp = some (.box t cells)) (hn1 : v.cells.length = 1) (hfit : Nat.ble (k + v.cells.length) cells.length = true) (hd : o.dst = d) (hk : ktB s d = true) :
  OpOk ro P c o s ((s.setBlk id (some (.box t (splice cells k v.cells)))).put d none) := op_store_lp (n := 1) ho hx hy hc hb (or_one F.h) (by rw [F.h]; exact hn1) hfit hd hk
theorem gs_agg {T n : Nat} {x y : Operand} {id k : Nat} {t : TypeId} {cells : List AV} {v : AV} [F : AggI P T n] (ho : o.op = .store T x y) (hx : ev s x = some (.lp id k)) (hy : ev s y = some v) (hc : v.cellish = true) (hb : look id s.hp = some (.box t cells)) (hn1 : v.cells.length = n) (hfit : Nat.ble (k + v.cells.length) cells.length = true) (hd : o.dst = d) (hk : ktB s d = true) :
  OpOk ro P c o s ((s.setBlk id (some (.box t (splice cells k v.cells)))).put d none) := op_store_lp (n := n) ho hx hy hc hb (or_agg F.h) (by rw [F.h0]; exact hn1) hfit hd hk
theorem glen {α : Type} {f : α → List PV} {l : List α} {T e sz sz' : Nat} {x : Operand} [F : SlcI P T e sz'] (ho : o.op = .call { callee := .builtin .len, args := #[x], argTypes := #[T] }) (hx : ev s x = some (.pv (.vs sz (l.map f)))) (hd : o.dst = d) (hn : dOk s d = true) : OpOk ro P c o s (s.put d (some (.pv (.int .i64 l.length)))) := op_len_vs (n := l.length) ho hx (List.length_map ..) F.h hd hn
theorem gp (h : RegW ro P c all rest Q s') (ho : OpOk ro P c o s s' := by first
 | exact gf_lp rfl rfl rfl rfl
 | exact gl_lp rfl rfl rfl rfl rfl rfl
 | exact op_int rfl rfl rfl rfl rfl rfl
 | exact gs_one rfl rfl rfl rfl rfl rfl rfl rfl rfl
 | exact gs_agg rfl rfl rfl rfl rfl rfl rfl rfl rfl
 | exact gl_vp rfl rfl rfl rfl rfl
 | exact glen rfl rfl rfl rfl
 | exact gf_vp rfl rfl rfl rfl
 | exact op_not rfl rfl rfl rfl) (hg : o.guard = none := by exact rfl) : RegW ro P c all (o :: rest) Q s := reg_cons (guard_no hg) ho h
theorem gn {j d : Nat} {want t : Bool} (ht : t = want) (h : RegW ro P c all rest Q s') (ho : OpOk ro P c o s s' := by first
 | exact gf_lp rfl rfl rfl rfl
 | exact gl_lp rfl rfl rfl rfl rfl rfl
 | exact op_int rfl rfl rfl rfl rfl rfl
 | exact gs_one rfl rfl rfl rfl rfl rfl rfl rfl rfl
 | exact gs_agg rfl rfl rfl rfl rfl rfl rfl rfl rfl
 | exact gl_vp rfl rfl rfl rfl rfl
 | exact glen rfl rfl rfl rfl
 | exact gf_vp rfl rfl rfl rfl
 | exact op_not rfl rfl rfl rfl
 | exact op_move rfl rfl rfl rfl
 | exact op_assign rfl rfl rfl rfl) (hg : o.guard = some (j, want) := by exact rfl) (hj : ((all[j]?).bind (·.dst)) = some d := by exact rfl) (hn : Nat.blt d s.n = true := by exact rfl) (hl : look d s.fr = some (.pv (.bool t)) := by exact rfl) : RegW ro P c all (o :: rest) Q s :=
 reg_cons (guard_on hg hj hn hl ht) ho h
end
section
variable {rest : List Oper} {o : Oper} {s' : St} {d : Option Nat}
def czc : Value → PV → Option PV
 | .slice none 0 0, .vs n [] => some (.vs n [])
 | v, _ => cv v
def czl : List Value → List PV → Option (List PV)
 | [], [] => some []
 | v :: vs, p :: ps => match czc v p, czl vs ps with
  | some q, some qs => some (q :: qs)
  | _, _ => none
 | _, _ => none
theorem cz_of {v : Value} {p q : PV} (h : czc v p = some q) (e : q = p) : cz v p := by
 subst e
 unfold czc at h
 split at h
 ·trivial
 ·unfold cz; split
  ·trivial
  ·exact h
theorem czs_of : ∀ {vs : List Value} {ps : List PV}, czl vs ps = some ps → czs vs ps
 | [], [], _ => trivial
 | [], _ :: _, h => by simp [czl] at h
 | _ :: _, [], h => by simp [czl] at h
 | v :: vs, p :: ps, h => by
  simp only [czl] at h
  split at h
  ·rename_i q qs h1 h2
   cases h
   exact ⟨cz_of h1 rfl, czs_of h2⟩
  ·cases h
theorem al (kk : Nat) {T : Nat} {z : Value} (ps : List PV) (hz : zeroIs P T z) (hk : freshB s kk = true := by exact rfl) (ho : o.op = .alloc T := by exact rfl) (hp : czl z.cells.toList ps = some ps := by kernel_rfl) (hd : o.dst = d := by exact rfl) (hn : dOk s d = true := by exact rfl) :
  OpOk ro P c o s ((s.addAt kk none (.box T (ps.map .pv))).put d (some (.lp kk 0))) := op_alloc kk hk ho hz (czs_of hp) hd hn
theorem bd {T : Nat} {parts : List (Nat × Operand)} {place : List (Nat × Nat)} {z : Value} (zs r : List PV) {xs : List (Nat × AV)} (hz : zeroIs P T z) (hpl : placesB P T place = true) (ho : o.op = .build T parts.toArray := by exact rfl) (hzs : czl z.cells.toList zs = some zs := by kernel_rfl)
  (hx : evs s parts = some xs := by exact rfl) (hr : fillPV place zs xs = some r := by exact rfl) (hd : o.dst = d := by exact rfl) (hn : dOk s d = true := by exact rfl) : OpOk ro P c o s (s.put d (some (.pv (.agg r)))) := op_build ho hz (czs_of hzs) hpl hx hr hd hn
theorem la {T n : Nat} {x : Operand} {id k : Nat} {t : TypeId} {cells : List AV} (ps : List PV) (ht : aggB P T n = true) (ho : o.op = .load T x := by exact rfl) (hx : ev s x = some (.lp id k) := by exact rfl) (hb : look id s.hp = some (.box t cells) := by exact rfl)
  (hc : pvs ((cells.drop k).take n) = some ps := by exact rfl) (hl : ps.length = n := by exact rfl) (h1c : (ps.all PV.one) = true := by exact rfl) (hd : o.dst = d := by exact rfl) (hn : dOk s d = true := by exact rfl) : OpOk ro P c o s (s.put d (some (.pv (.agg ps)))) := op_load_lp_agg ho hx hb hc hl h1c ht hd hn
theorem lw {T n : Nat} {x : Operand} {row : List PV} (ps : List PV) (ht : aggB P T n = true) (ho : o.op = .load T x := by exact rfl) (hx : ev s x = some (.pv (.vp row)) := by exact rfl) (hp : row.take n = ps := by exact rfl) (hl : ps.length = n := by exact rfl) (hd : o.dst = d := by exact rfl) (hn : dOk s d = true := by exact rfl) :
  OpOk ro P c o s (s.put d (some (.pv (.agg ps)))) := op_load_vp_agg ho hx hp hl ht hd hn
theorem ix {T e sz : Nat} {x y : Operand} {k : IntKind} {n : Int} {rows : List (List PV)} {row : List PV} (hr : idx rows n = some row) (ht : sliceB P T e sz = true) (ho : o.op = .indexAddr T x y := by exact rfl) (hx : ev s x = some (.pv (.vs sz rows)) := by exact rfl) (hy : ev s y = some (.pv (.int k n)) := by exact rfl)
  (hd : o.dst = d := by exact rfl) (hn : dOk s d = true := by exact rfl) : OpOk ro P c o s (s.put d (some (.pv (.vp row)))) := op_index_vs ho hx hy hr ht hd hn
theorem bo (kk : Nat) {T : Nat} {x : Operand} {v : AV} (hk : freshB s kk = true := by exact rfl) (ho : o.op = .box T x := by exact rfl) (hx : ev s x = some v := by exact rfl) (hc : v.cellish = true := by exact rfl) (hd : o.dst = d := by exact rfl) (hn : dOk s d = true := by exact rfl) :
  OpOk ro P c o s ((s.addAt kk none (.box T v.cells)).put d (some (.lp kk 0))) := op_box kk hk ho hx hc hd hn
theorem cl (kk : Nat) {fo : Operand} {xs : List Operand} {ts : Array TypeId} {f : Nat} (args : List PV) (rs : List Res) {ob : Option Blk} (h : Fn G P f (args ++ []) rs) (hB : callB P f = true := by kernel_rfl) (hk : freshB s kk = true := by exact rfl) (ho : o.op = .call { callee := .value fo, args := xs.toArray, argTypes := ts } := by exact rfl) (hf : ev s fo = some (.pv (.fn f [])) := by exact rfl) (hx : evl s xs = some (args.map .pv) := by exact rfl)
  (hob : oneOwn rs = some ob := by exact rfl) (hd : o.dst = d := by exact rfl) (hn : dOk s d = true := by exact rfl) : OpOk ro P c o s ((s.addRes kk ob).put d (some (resTop kk rs))) := op_call kk hk (caps := []) ho hf hx hB h hob hd hn
theorem cnd {β : Type} {b : Bool} {X Y : Option β} {r : β} {x y : Code} {t : Operand} (hF : (if b = true then X else Y) = some r) (h1 : b = true → X = some r → AW ro P c x Q s) (h2 : b = false → Y = some r → AW ro P c y Q s) (ht : ev s t = some (.pv (.bool b)) := by exact rfl) : AW ro P c (.cond t x y) Q s := by
 rcases ite_some hF with ⟨h3, h4⟩ | ⟨h3, h4⟩
 ·exact aw_cond_t ht h3 (h1 h3 h4)
 ·exact aw_cond_f ht h3 (h2 h3 h4)
theorem bs {α β : Type} {x : Option α} {k : α → Option β} {r : β} (h : x.bind k = some r) : ∃ y, x = some y ∧ k y = some r := bind_some h
theorem ie {β : Type} {b : Bool} {x y : Option β} {r : β} (h : (if b = true then x else y) = some r) : (b = true ∧ x = some r) ∨ (b = false ∧ y = some r) := ite_some h
theorem pcz {s1 : St} (L : List Nat) (hF : pickF s.fr s1.fr = renF (fun i => L.getD i s.next) s1.fr := by kernel_rfl) (hH : pickH s.hp (fun i => L.getD i s.next) s1.hp = renH (fun i => L.getD i s.next) s1.hp := by kernel_rfl)
  (hn : s1.n = s.n := by exact rfl) (hnd : L.Nodup := by decide) (hnext : s1.next = L.length := by exact rfl) (hfree : s1.free = [] := by exact rfl)
  (hids : (s1.hp.all fun x => Nat.blt x.1 L.length) = true := by exact rfl) (hys : s1.ys = s.ys := by exact rfl) (hkt : s1.kt = s.kt := by exact rfl) : Post c (Cut c Q (fun s' => s' = s1)) .normal s := post_cut s1 rfl (imp_sub L hn hnd hnext hfree (subF_of hF) (subH_of hH) hids hys hkt)
theorem rcz {all : List Oper} {s1 : St} (L : List Nat) (hF : pickF s.fr s1.fr = renF (fun i => L.getD i s.next) s1.fr := by kernel_rfl) (hH : pickH s.hp (fun i => L.getD i s.next) s1.hp = renH (fun i => L.getD i s.next) s1.hp := by kernel_rfl)
  (hn : s1.n = s.n := by exact rfl) (hnd : L.Nodup := by decide) (hnext : s1.next = L.length := by exact rfl) (hfree : s1.free = [] := by exact rfl)
  (hids : (s1.hp.all fun x => Nat.blt x.1 L.length) = true := by exact rfl) (hys : s1.ys = s.ys := by exact rfl) (hkt : s1.kt = s.kt := by exact rfl) : RegW ro P c all [] (Cut c Q (fun s' => s' = s1)) s := reg_nil (post_cut s1 rfl (imp_sub L hn hnd hnext hfree (subF_of hF) (subH_of hH) hids hys hkt))
theorem ctx {k : Code} (s1 : St) (h : AW ro P c k (Cut c Q (fun s' => s' = s1)) s) (h2 : Post c Q .normal s1) : AW ro P c k Q s := aw_cut _ h (fun _ e => e ▸ h2)
theorem rnr {all : List Oper} {x : Code} {m : Nat} (h : RndW ro P c x Q m s) : RegW ro P c all [] (Exit.then (Code.roundsIn (FF ro) 0 P x Q m) Q) s := reg_nil (post_round h)
abbrev sX (n : Nat) (fr : List (Nat × Option AV)) (hp : List (Nat × Option Blk)) (k : Nat) : St := ⟨n, fr, hp, k, [], [], 0, []⟩
abbrev pf (t : Nat) (p : PV) : Nat × Option AV := (t, some (.pv p))
abbrev bf (t T : Nat) (l : List PV) : Nat × Option Blk := (t, some (.box T (bxv l)))
end
section
variable {id n next ys : Nat} {kt : List Nat} {df : List Deferred} {l rest : List Oper} {o : Oper} {m0 m : Mid} {es : List Eff}
theorem dfl {t d T f off i k : Nat} [F : FldI P T f off] (h : DrW ro P c Q s id l n df next ys kt m0 ({ need := [(t, .lp i k)], dst := some d, val := some (.lp i (k + off)) } :: es) rest (({ need := [(t, .lp i k)], dst := some d, val := some (.lp i (k + off)) } : Eff).apply m))
  (hg : o.guard = none := by exact rfl) (ho : o.op = .fieldAddr T (.tmp t) f := by exact rfl) (hd : o.dst = some d := by exact rfl) (hl : look t m.fr = some (.lp i k) := by exact rfl) (hk : dOk (m.st n df next ys kt) (some d) = true := by exact rfl) : DrW ro P c Q s id l n df next ys kt m0 es (o :: rest) m :=
 dr_cons { need := [(t, .lp i k)], dst := some d, val := some (.lp i (k + off)) } (fun _ h => step_on (guard_no hg) (op_field_lp ho h.1.1 F.h hd hk) rfl) ⟨⟨hl, trivial⟩, trivial, trivial⟩ h
theorem dfg {t d T f off i k j dg : Nat} {want b : Bool} [F : FldI P T f off] (hb : b = want) (h : DrW ro P c Q s id l n df next ys kt m0 ({ need := [(dg, .pv (.bool b)), (t, .lp i k)], dst := some d, val := some (.lp i (k + off)) } :: es) rest (({ need := [(dg, .pv (.bool b)), (t, .lp i k)], dst := some d, val := some (.lp i (k + off)) } : Eff).apply m))
  (hg : o.guard = some (j, want) := by exact rfl) (hj : ((l[j]?).bind (·.dst)) = some dg := by exact rfl) (hn : Nat.blt dg n = true := by exact rfl) (hgl : look dg m.fr = some (.pv (.bool b)) := by exact rfl) (ho : o.op = .fieldAddr T (.tmp t) f := by exact rfl) (hd : o.dst = some d := by exact rfl) (hl : look t m.fr = some (.lp i k) := by exact rfl) (hk : dOk (m.st n df next ys kt) (some d) = true := by exact rfl) : DrW ro P c Q s id l n df next ys kt m0 es (o :: rest) m :=
 dr_cons { need := [(dg, .pv (.bool b)), (t, .lp i k)], dst := some d, val := some (.lp i (k + off)) } (fun _ h => step_on (guard_on hg hj hn h.1.1 hb) (op_field_lp ho h.1.2.1 F.h hd hk) rfl) ⟨⟨hgl, hl, trivial⟩, trivial, trivial⟩ h
theorem dld {t d T i k tt : Nat} {cells : List AV} {v : AV} [F : OneI P T] (h : DrW ro P c Q s id l n df next ys kt m0 ({ need := [(t, .lp i k)], hneed := [(i, .box tt cells)], dst := some d, val := some v } :: es) rest (({ need := [(t, .lp i k)], hneed := [(i, .box tt cells)], dst := some d, val := some v } : Eff).apply m))
  (hg : o.guard = none := by exact rfl) (ho : o.op = .load T (.tmp t) := by exact rfl) (hd : o.dst = some d := by exact rfl) (hl : look t m.fr = some (.lp i k) := by exact rfl) (hh : look i m.hp = some (.box tt cells) := by exact rfl) (hc : cells[k]? = some v := by exact rfl) (hk : dOk (m.st n df next ys kt) (some d) = true := by exact rfl) : DrW ro P c Q s id l n df next ys kt m0 es (o :: rest) m :=
 dr_cons { need := [(t, .lp i k)], hneed := [(i, .box tt cells)], dst := some d, val := some v } (fun _ h => step_on (guard_no hg) (op_load_lp ho h.1.1 h.2.1.1 hc F.h hd hk) rfl) ⟨⟨hl, trivial⟩, ⟨hh, trivial⟩, trivial⟩ h
theorem dlg {t d T i k tt j dg : Nat} {want b : Bool} {cells : List AV} {v : AV} [F : OneI P T] (hb : b = want) (h : DrW ro P c Q s id l n df next ys kt m0 ({ need := [(dg, .pv (.bool b)), (t, .lp i k)], hneed := [(i, .box tt cells)], dst := some d, val := some v } :: es) rest (({ need := [(dg, .pv (.bool b)), (t, .lp i k)], hneed := [(i, .box tt cells)], dst := some d, val := some v } : Eff).apply m))
  (hg : o.guard = some (j, want) := by exact rfl) (hj : ((l[j]?).bind (·.dst)) = some dg := by exact rfl) (hn : Nat.blt dg n = true := by exact rfl) (hgl : look dg m.fr = some (.pv (.bool b)) := by exact rfl) (ho : o.op = .load T (.tmp t) := by exact rfl) (hd : o.dst = some d := by exact rfl) (hl : look t m.fr = some (.lp i k) := by exact rfl) (hh : look i m.hp = some (.box tt cells) := by exact rfl) (hc : cells[k]? = some v := by exact rfl) (hk : dOk (m.st n df next ys kt) (some d) = true := by exact rfl) : DrW ro P c Q s id l n df next ys kt m0 es (o :: rest) m :=
 dr_cons { need := [(dg, .pv (.bool b)), (t, .lp i k)], hneed := [(i, .box tt cells)], dst := some d, val := some v } (fun _ h => step_on (guard_on hg hj hn h.1.1 hb) (op_load_lp ho h.1.2.1 h.2.1.1 hc F.h hd hk) rfl) ⟨⟨hgl, hl, trivial⟩, ⟨hh, trivial⟩, trivial⟩ h
theorem dia {t d T T' : Nat} {op : BinOp} {k : IntKind} {a b : Int} {r : PV} {y : Value} (h : DrW ro P c Q s id l n df next ys kt m0 ({ need := [(t, .pv (.int k a))], dst := some d, val := some (.pv r) } :: es) rest (({ need := [(t, .pv (.int k a))], dst := some d, val := some (.pv r) } : Eff).apply m))
  (hg : o.guard = none := by exact rfl) (ho : o.op = .binOp op T (.tmp t) (.const y) T' := by exact rfl) (hd : o.dst = some d := by exact rfl) (hl : look t m.fr = some (.pv (.int k a)) := by exact rfl) (hy : cv y = some (.int k b) := by exact rfl) (hr : intOp op k a b = some r := by exact rfl) (hk : dOk (m.st n df next ys kt) (some d) = true := by exact rfl) : DrW ro P c Q s id l n df next ys kt m0 es (o :: rest) m :=
 dr_cons { need := [(t, .pv (.int k a))], dst := some d, val := some (.pv r) } (fun _ h => step_on (guard_no hg) (op_int ho h.1.1 (show ev _ (.const y) = _ by simp only [ev, hy, Option.map_some]) hr hd hk) rfl) ⟨⟨hl, trivial⟩, trivial, trivial⟩ h
theorem dig {t d T T' j dg : Nat} {want z : Bool} {op : BinOp} {k : IntKind} {a b : Int} {r : PV} {y : Value} (hb : z = want) (h : DrW ro P c Q s id l n df next ys kt m0 ({ need := [(dg, .pv (.bool z)), (t, .pv (.int k a))], dst := some d, val := some (.pv r) } :: es) rest (({ need := [(dg, .pv (.bool z)), (t, .pv (.int k a))], dst := some d, val := some (.pv r) } : Eff).apply m))
  (hg : o.guard = some (j, want) := by exact rfl) (hj : ((l[j]?).bind (·.dst)) = some dg := by exact rfl) (hn : Nat.blt dg n = true := by exact rfl) (hgl : look dg m.fr = some (.pv (.bool z)) := by exact rfl) (ho : o.op = .binOp op T (.tmp t) (.const y) T' := by exact rfl) (hd : o.dst = some d := by exact rfl) (hl : look t m.fr = some (.pv (.int k a)) := by exact rfl) (hy : cv y = some (.int k b) := by exact rfl) (hr : intOp op k a b = some r := by exact rfl) (hk : dOk (m.st n df next ys kt) (some d) = true := by exact rfl) : DrW ro P c Q s id l n df next ys kt m0 es (o :: rest) m :=
 dr_cons { need := [(dg, .pv (.bool z)), (t, .pv (.int k a))], dst := some d, val := some (.pv r) } (fun _ h => step_on (guard_on hg hj hn h.1.1 hb) (op_int ho h.1.2.1 (show ev _ (.const y) = _ by simp only [ev, hy, Option.map_some]) hr hd hk) rfl) ⟨⟨hgl, hl, trivial⟩, trivial, trivial⟩ h
theorem dgo {g g' : Prop} (h' : g') (h : g' → g := by first
 | exact fun h => drm h
 | exact fun h => dfl h
 | exact fun h => dld h
 | exact fun h => dia h
 | exact fun h => dru h) : g := h h'
theorem dgn {b want : Bool} {g g' : Prop} (hb : b = want) (h' : g') (h : b = want → g' → g := by first
 | exact fun hb h => dfg hb h
 | exact fun hb h => dlg hb h
 | exact fun hb h => dig hb h) : g := h hb h'
end
theorem go {g g' : Prop} (h' : g') (h : g' → g := by first
 | ((with_reducible refine (?_ : _ → RegW _ _ _ _ _ _ _)); first
  | exact fun h => rmv h
  | exact fun h => gp h
  | exact fun h => ras h
  | exact fun h => reg_nil (post_next h)
  | exact fun h => rgu h)
 | ((with_reducible refine (?_ : _ → AW _ _ _ _ _ _)); first
  | with_reducible exact fun h => aw_seq (aw_region h)
  | with_reducible exact fun h => aw_seq h
  | with_reducible exact fun h => aw_region h
  | with_reducible exact fun h => aw_skip h
  | with_reducible exact fun h => aw_ret h
  | with_reducible exact fun h => aw_block h)
 | ((with_reducible refine (?_ : _ → Post _ _ _ _)); first
  | with_reducible exact fun h => post_next h
  | with_reducible exact fun h => post_block_normal h
  | with_reducible exact fun h => post_then_ret h
  | with_reducible exact fun h => post_block_ret h)) : g := h h'
end
end Go.Abs

/- The arguments' readings with their bulk; a law's second row. -/
namespace Go.Abs
variable {G : List (Nat × List PV)}
open Go.ChangeShapes Go.WideShapes Go.ChangeAt Go.RowKit
structure Bk (H : Type) where
 bk : DataW H → Nat
 al : List (DataW H) → Nat
 str : ∀ s, s.length + 1 ≤ bk (.lit (.string s))
 one : ∀ d, 1 ≤ bk d
 sl : ∀ e s, al e + 1 ≤ bk (.slice e s)
 ag : ∀ l, al l + 1 ≤ bk (.agg l)
 nil : al [] = 0
 cons : ∀ d l, al (d :: l) = bk d + al l
def lsum {α : Type} (u : α → Nat) : List α → Nat
 | [] => 0
 | x :: l => u x + lsum u l
section
variable {H : Type} (K : Bk H) (enc : TypeId × Value → H) (P : Program) (w : World)
def DecU (fuel : Nat) (T : TypeId) {α : Type} (e : α → List PV) (good : α → Prop) (u : α → Nat) : Prop :=
 ∀ (cs : List Value) (x : DataW H × List MemPlace), DataW.trod enc P w 0 (fun _ => true) true fuel T cs = some x → ∃ y, good y ∧ u y ≤ K.bk x.1 ∧ Reads1 w (fun _ => False) cs (e y)
variable {K enc P w}
theorem decU_bool {fuel T : Nat} (h : P.underlying T = some .bool) : DecU K enc P w fuel T eB (fun _ => True) (fun _ => 1) := fun cs x hx => by
 obtain ⟨y, h1, h2⟩ := dec_bool h cs x hx
 exact ⟨y, h1, K.one _, h2⟩
theorem decU_int {fuel T : Nat} (h : P.underlying T = some (.int .i64)) : DecU K enc P w fuel T eI i64ok (fun _ => 1) := fun cs x hx => by
 obtain ⟨y, h1, h2⟩ := dec_int h cs x hx
 exact ⟨y, h1, K.one _, h2⟩
theorem decU_str {fuel T : Nat} (h : P.underlying T = some .string) : DecU K enc P w fuel T eS strok (fun s => s.length + 1) := fun cs x hx => by
 obtain ⟨s, rfl, rfl, hs⟩ := DataW.trod_string h hx
 refine ⟨s.data.toList, by show s.data.toList.length ≤ maxLen; rw [Array.length_toList]; exact hs, K.str _, reads1_one ?_ rfl⟩
 have := Rd.str (w := w) (O := fun _ => False) s.data.toList
 simpa using this
theorem al_ge : ∀ (l : List (DataW H)) (ns : List Nat), ns.length = l.length → (∀ (i n : Nat) (d : DataW H), ns[i]? = some n → l[i]? = some d → n ≤ K.bk d) → lsum id ns ≤ K.al l
 | [], [], _, _ => by rw [K.nil]; exact Nat.le_refl _
 | d :: l, n :: ns, hl, h => by
  rw [K.cons]
  simp only [lsum, id]
  have h1 := h 0 n d rfl rfl
  have h2 := al_ge l ns (by simpa using hl) (fun i n d hn hd => h (i + 1) n d (by simpa using hn) (by simpa using hd))
  omega
 | [], _ :: _, hl, _ => by simp at hl
 | _ :: _, [], hl, _ => by simp at hl
theorem lsum_map {α β : Type} (u : β → Nat) (f : α → β) : ∀ l : List α, lsum u (l.map f) = lsum (fun x => u (f x)) l
 | [] => rfl
 | x :: l => by simp only [List.map_cons, lsum, lsum_map u f l]
theorem lsum_id {α : Type} (u : α → Nat) (l : List α) : lsum id (l.map u) = lsum u l := by rw [lsum_map]; rfl
theorem decU_slice {fuel T E sz : Nat} {α : Type} {e : α → List PV} {good : α → Prop} {u : α → Nat} (h : P.underlying T = some (.slice E)) (hsz : P.cellsOf E = sz) (hz : Nat.blt 0 sz = true) (hlen : ∀ y, (e y).length = sz) (hE : ∀ n, n < fuel → DecU K enc P w n E e good u) :
  DecU K enc P w fuel T (eL sz e) (listok good) (fun l => lsum u l + 1) := fun cs x hx => by
 -- the elements' own counts go along as a part of what is good
 have hz' : 0 < sz := by simpa [Nat.blt_eq] using hz
 rcases DataW.trod_slice h hx with ⟨rfl, rfl⟩ | ⟨a, len, cap, elems, rest, n, hf, rfl, rfl, _, h1, h2, h3, h4, h5⟩
 ·exact ⟨[], ⟨Nat.zero_le _, by simp⟩, K.one _, reads1_one (.vs0 sz) rfl⟩
 ·have el : ∀ i, i < len → ∃ y cs' ei, elems[i]? = some ei ∧ u y ≤ K.bk ei.1 ∧ good y ∧ w.cells? 0 (a.add (i * sz)) sz = some cs' ∧ Reads1 w (fun _ => False) cs' (e y) := by
   intro i hi
   have h6 := h4 i hi
   rw [hsz] at h6
   obtain ⟨ei, hei⟩ : ∃ ei, elems[i]? = some ei := ⟨elems[i]'(by omega), List.getElem?_eq_getElem (by omega)⟩
   rw [hei] at h6
   obtain ⟨cs', h7, h8⟩ := Option.bind_eq_some_iff.1 h6
   obtain ⟨y, h9, h10, h11⟩ := hE n (by omega) cs' _ h8
   exact ⟨y, cs', ei, hei, h10, h9, h7, h11⟩
  rcases Nat.eq_zero_or_pos len with h0 | h0
  ·subst h0
   exact ⟨[], ⟨Nat.zero_le _, by simp⟩, K.one _, reads1_one (.vsz sz (some a) cap (fun e => by cases e) h2) rfl⟩
  ·obtain ⟨f, hfs⟩ : ∃ f : Nat → α, ∀ i, i < len → ∃ cs' ei, elems[i]? = some ei ∧ u (f i) ≤ K.bk ei.1 ∧ good (f i) ∧ w.cells? 0 (a.add (i * sz)) sz = some cs' ∧ Reads1 w (fun _ => False) cs' (e (f i)) := by
    obtain ⟨y0, _⟩ := el 0 h0
    refine ⟨fun i => if hi : i < len then (el i hi).choose else y0, fun i hi => ?_⟩
    simp only [dif_pos hi]
    exact (el i hi).choose_spec
   -- the reading of the whole, by the rule without counts
   have hd : ∃ y, (y = (List.range len).map f) ∧ Reads1 w (fun _ => False) [.slice (some a) len cap] (eL sz e y) := by
    have hsp : a.spot = none := by
     obtain ⟨cs', _, _, _, _, hc, _⟩ := hfs 0 h0
     obtain ⟨_, hl, hcell⟩ := World.cells?_some hc
     have := hcell 0 hz'
     obtain ⟨v, hv⟩ : ∃ v, cs'[0]? = some v := ⟨cs'[0]'(by omega), List.getElem?_eq_getElem (by omega)⟩
     rw [hv] at this
     simpa [Addr.add] using World.cell?_spot this
    obtain ⟨b, off, sp⟩ := a
    simp only at hsp; subst hsp
    refine ⟨(List.range len).map f, rfl, reads1_one ?_ rfl⟩
    have hL : (List.map e ((List.range len).map f)).length = len := by simp
    have cellv : ∀ k, k < len * sz → ∃ v, w.cell? ⟨b, off + k, none⟩ = some v ∧ ∀ p, (e (f (k / sz)))[k % sz]? = some p → Rd w (fun _ => False) p v := by
     intro k hk
     have hq : k / sz < len := Nat.div_lt_of_lt_mul (by rw [Nat.mul_comm]; exact hk)
     have hm : k % sz < sz := Nat.mod_lt _ hz'
     obtain ⟨cs', _, _, _, _, hc, hr⟩ := hfs (k / sz) hq
     obtain ⟨_, hl, hcell⟩ := World.cells?_some hc
     have h6 := hcell (k % sz) hm
     have hv : cs'[k % sz]? = some (cs'[k % sz]'(by omega)) := List.getElem?_eq_getElem (by omega)
     refine ⟨cs'[k % sz]'(by omega), ?_, fun p hp => hr.2.2 _ p _ hp hv⟩
     rw [hv] at h6
     have e1 : off + k / sz * sz + k % sz = off + k := by
      have := Nat.div_add_mod k sz
      rw [Nat.mul_comm] at this
      omega
     simp only [Addr.add_lit] at h6
     rw [e1] at h6
     exact h6
    have hus : ∃ us : Nat → Value, ∀ k, k < len * sz → w.cell? ⟨b, off + k, none⟩ = some (us k) ∧ ∀ p, (e (f (k / sz)))[k % sz]? = some p → Rd w (fun _ => False) p (us k) := by
     refine ⟨fun k => if hk : k < len * sz then (cellv k hk).choose else undef, fun k hk => ?_⟩
     simp only [dif_pos hk]
     exact (cellv k hk).choose_spec
    obtain ⟨us, hus⟩ := hus
    have hb : b < w.heap.size := by
     have h6 := (hus 0 (Nat.mul_pos h0 hz')).1
     rcases Nat.lt_or_ge b w.heap.size with h7 | h7
     ·exact h7
     ·simp [World.cell?, Array.getElem?_eq_none h7] at h6
    have := Rd.vs (w := w) (O := fun _ => False) sz (List.map e ((List.range len).map f)) b off cap us (fun h => h) hb (by rw [hL]; omega) h2 (fun row hr => ?_) (fun row hr c hc => ?_) (fun k hk => ?_) (fun i j row c hi hj => ?_)
    ·rw [hL] at this; exact this
    ·obtain ⟨y, _, rfl⟩ := List.mem_map.1 hr
     exact hlen y
    ·obtain ⟨y, hy, rfl⟩ := List.mem_map.1 hr
     obtain ⟨i, hi, rfl⟩ := List.mem_map.1 hy
     obtain ⟨cs', _, _, _, _, _, hr⟩ := hfs i (by simpa using hi)
     exact hr.2.1 c hc
    ·rw [hL] at hk
     exact (hus k hk).1
    ·have hi' : i < len := by have := (List.getElem?_eq_some_iff.1 hi).1; rw [hL] at this; exact this
     simp [hi'] at hi
     subst hi
     have hj' : j < sz := by have := (List.getElem?_eq_some_iff.1 hj).1; rw [hlen] at this; exact this
     have h6 := (hus (i * sz + j) (index_lt hi' hj')).2 c
     have e1 : (i * sz + j) / sz = i := by rw [Nat.mul_comm, Nat.mul_add_div hz', Nat.div_eq_of_lt hj', Nat.add_zero]
     have e2 : (i * sz + j) % sz = j := by rw [Nat.mul_comm, Nat.mul_add_mod, Nat.mod_eq_of_lt hj']
     rw [e1, e2] at h6
     exact h6 hj
   obtain ⟨y, rfl, hr⟩ := hd
   refine ⟨(List.range len).map f, ⟨by simp; omega, fun y hy => ?_⟩, ?_, hr⟩
   ·obtain ⟨i, hi, rfl⟩ := List.mem_map.1 hy
    obtain ⟨_, _, _, _, hg, _⟩ := hfs i (by simpa using hi)
    exact hg
   ·refine Nat.le_trans (Nat.succ_le_succ ?_) (K.sl _ _)
    rw [← lsum_id]
    refine al_ge _ _ (by simp [h3]) fun i n d hn hd => ?_
    rw [List.map_map, List.getElem?_map, Option.map_eq_some_iff] at hn
    obtain ⟨j, hj, rfl⟩ := hn
    have hji : j = i ∧ i < len := by
     rw [List.getElem?_eq_some_iff] at hj
     obtain ⟨h6, h7⟩ := hj
     simp at h6 h7
     exact ⟨h7.symm, h6⟩
    obtain ⟨rfl, hi⟩ := hji
    obtain ⟨_, ei, h6, h7, _⟩ := hfs j hi
    rw [List.getElem?_map, h6] at hd
    simp at hd; subst hd
    exact h7
theorem decU_parts {fuel T n : Nat} {l : List (TypeId × Nat × Nat)} {cs : List Value} {x : DataW H × List MemPlace} (h : partsB P T l n = true) (hx : DataW.trod enc P w 0 (fun _ => true) true fuel T cs = some x) :
  ∃ (m : Nat) (xs : List (DataW H × List MemPlace)), m < fuel ∧ cs.length = n ∧ x.1 = .agg (xs.map (·.1)) ∧ xs.length = l.length ∧ ∀ (i t off sz : Nat), l[i]? = some (t, off, sz) → ∃ y, xs[i]? = some y ∧ DataW.trod enc P w 0 (fun _ => true) true m t ((cs.drop off).take sz) = some y := by
 unfold partsB at h
 split at h
 ·rename_i fs hu
  simp only [Bool.and_eq_true, beq_iff_eq] at h
  obtain ⟨rfl, rfl⟩ := h
  obtain ⟨xs, m, hf, he, hl, hxs, hp⟩ := DataW.trod_struct hu hx
  refine ⟨m, xs, by omega, hl, by rw [he], by simp [hxs], fun i t off sz hi => ?_⟩
  rw [List.getElem?_map, Option.map_eq_some_iff] at hi
  obtain ⟨f, hfi, he⟩ := hi
  injection he with e1 e2; injection e2 with e2 e3
  subst e1; subst e2; subst e3
  have hfi' : fs[i]? = some f := by simpa using hfi
  have hlt : i < xs.length := by rw [hxs]; exact (Array.getElem?_eq_some_iff.1 hfi').1
  exact ⟨xs[i], List.getElem?_eq_getElem hlt, by rw [hp i f hfi']; exact List.getElem?_eq_getElem hlt⟩
 ·cases h
theorem agg_ge {xs : List (DataW H × List MemPlace)} {d : DataW H} {n : Nat} (ns : List Nat) (hd : d = .agg (xs.map (·.1))) (hl : xs.length = n) (hn : ns.length = n) (h : ∀ (i n : Nat) (y : DataW H × List MemPlace), ns[i]? = some n → xs[i]? = some y → n ≤ K.bk y.1) : lsum id ns + 1 ≤ K.bk d := by
 subst hd
 refine Nat.le_trans (Nat.succ_le_succ (al_ge _ _ (by simp [hl, hn]) fun i n d hi hd => ?_)) (K.ag _)
 rw [List.getElem?_map, Option.map_eq_some_iff] at hd
 obtain ⟨y, hy, rfl⟩ := hd
 exact h i n y hi hy
def NsGe (K : Bk H) (xs : List (DataW H × List MemPlace)) : Nat → List Nat → Prop
 | _, [] => True
 | i, n :: ns => (∃ y, xs[i]? = some y ∧ n ≤ K.bk y.1) ∧ NsGe K xs (i + 1) ns
theorem NsGe.spec {xs : List (DataW H × List MemPlace)} : ∀ {ns : List Nat} {k : Nat}, NsGe K xs k ns → ∀ (i n : Nat) (y : DataW H × List MemPlace), ns[i]? = some n → xs[k + i]? = some y → n ≤ K.bk y.1
 | [], _, _, i, n, y, hi, _ => by simp at hi
 | n' :: ns, k, h, i, n, y, hi, hy => by
  cases i with
  | zero =>
   simp at hi; subst hi
   obtain ⟨y', h1, h2⟩ := h.1
   rw [Nat.add_zero, h1] at hy; cases hy
   exact h2
  | succ i => exact NsGe.spec h.2 i n y (by simpa using hi) (by rw [show k + 1 + i = k + (i + 1) by omega]; exact hy)
theorem agg_ns {xs : List (DataW H × List MemPlace)} {d : DataW H} {n : Nat} (ns : List Nat) (hd : d = .agg (xs.map (·.1))) (hl : xs.length = n) (hn : ns.length = n) (h : NsGe K xs 0 ns) : lsum id ns + 1 ≤ K.bk d :=
 agg_ge ns hd hl hn (fun i n y h1 h2 => h.spec i n y h1 (by rw [Nat.zero_add]; exact h2))
theorem arrU_parts {fuel T n E sz : Nat} {cs : List Value} {x : DataW H × List MemPlace} (h : arrB P T n E sz = true) (hx : DataW.trod enc P w 0 (fun _ => true) true fuel T cs = some x) :
  ∃ (m : Nat) (xs : List (DataW H × List MemPlace)), m < fuel ∧ cs.length = n * sz ∧ x.1 = .agg (xs.map (·.1)) ∧ xs.length = n ∧ ∀ i, i < n → ∃ y, xs[i]? = some y ∧ DataW.trod enc P w 0 (fun _ => true) true m E ((cs.drop (i * sz)).take sz) = some y := by
 unfold arrB at h
 split at h
 ·rename_i m e hu
  simp only [Bool.and_eq_true, beq_iff_eq] at h
  obtain ⟨⟨rfl, rfl⟩, rfl, h4⟩ := h
  obtain ⟨xs, m', hf, he, hl, hxs, hp⟩ := DataW.trod_array hu hx
  refine ⟨m', xs, by omega, by rw [hl, h4], by rw [he], hxs, fun i hi => ?_⟩
  exact ⟨xs[i], List.getElem?_eq_getElem (by omega), by rw [hp i hi]; exact List.getElem?_eq_getElem (by omega)⟩
 ·cases h
theorem decU_arr4 {fuel T E sz : Nat} {α : Type} {e : α → List PV} {good : α → Prop} {u : α → Nat} (h : arrB P T 4 E sz = true) (hlen : ∀ y, (e y).length = sz) (hE : ∀ n, n < fuel → DecU K enc P w n E e good u) :
  DecU K enc P w fuel T (eA4 e) (fun x => good x.a0 ∧ good x.a1 ∧ good x.a2 ∧ good x.a3) (fun x => u x.a0 + (u x.a1 + (u x.a2 + (u x.a3 + 0))) + 1) := fun cs x hx => by
 obtain ⟨m, xs, hm, hl, hd, hxl, hp⟩ := arrU_parts h hx
 obtain ⟨z0, k0, q0⟩ := hp 0 (by omega)
 obtain ⟨z1, k1, q1⟩ := hp 1 (by omega)
 obtain ⟨z2, k2, q2⟩ := hp 2 (by omega)
 obtain ⟨z3, k3, q3⟩ := hp 3 (by omega)
 obtain ⟨y0, g0, b0, r0⟩ := hE m hm _ _ q0
 obtain ⟨y1, g1, b1, r1⟩ := hE m hm _ _ q1
 obtain ⟨y2, g2, b2, r2⟩ := hE m hm _ _ q2
 obtain ⟨y3, g3, b3, r3⟩ := hE m hm _ _ q3
 refine ⟨⟨y0, y1, y2, y3⟩, ⟨g0, g1, g2, g3⟩, agg_ns [u y0, u y1, u y2, u y3] hd hxl rfl ⟨⟨z0, k0, b0⟩, ⟨z1, k1, b1⟩, ⟨z2, k2, b2⟩, ⟨z3, k3, b3⟩, trivial⟩, ?_⟩
 have e0 : cs.drop 0 = cs := List.drop_zero
 rw [← e0]
 have := reads_cons (off := 0) (by simpa using r0) (hlen y0) (reads_cons (by simpa using r1) (hlen y1) (reads_cons (by rw [show 0 + sz + sz = 2 * sz by omega]; exact r2) (hlen y2) (reads_cons (by rw [show 0 + sz + sz + sz = 3 * sz by omega]; exact r3) (hlen y3) (reads_nil (by omega)))))
 simpa using this
theorem decU_arg {T : TypeId} {v : Value} {d : DataW H} {ps : List MemPlace} {α : Type} {e : α → List PV} {good : α → Prop} {u : α → Nat} (hT : ∀ n, DecU K enc P w n T e good u) (h : DataW.Trod enc P w 0 (fun _ => true) true T v d ps) : ∃ y, good y ∧ u y ≤ K.bk d ∧ Reads1 w (fun _ => False) v.cells.toList (e y) := by
 obtain ⟨fuel, hf⟩ := h
 exact hT fuel _ _ hf
end
section
variable {H : Type} {enc : TypeId × Value → H}
theorem law_upto {C : Checked} {os : Os} {f : FuncId} {fn : Func} {s : ChangeSpec} {s2 : OpenSpec} {k : (H : Type) → List (DataW H) → Bool} (hk : s2.cond = some k) {F : Stop.Interp} {B : TypeId} {fresh handsOn : Bool}
  (own : ownKnob C.prog.godebug = none) (started : os.Started) (noInit : C.prog.inits.idxOf? f = none) (hfn : C.prog.funcs[f]? = some fn)
  (witness : ∃ (w : World) (tape : Tape) (i : Input), w.os = os ∧ (w.forCall tape i).Shaped C.prog ∧ i.vars = [] ∧ Input.okWide C.prog (w.forCall tape i) .any w.heap.size f i ∧
   s2.pre6 enc C.prog fn [] false (w.forCall tape i).memory i.args ∧ ({} : Assume).holds C.prog (lone (Frame.enter C.prog f i.args .normal) [] (w.forCall tape i)))
  (hl : laidOutB C.prog = true) (hr : readB C.prog fn.params.toList = true) (hvars : s.vars = []) (hv2 : s2.vars = []) (hres : fn.resultTypes = #[B]) (hB : C.prog.underlying B = some .bool)
  (hs : ∀ ds : List (DataW H), ds.length = fn.params.size → s.fn H ds = { results := [.lit (.bool true)], args := ds })
  (hpost : ∀ W args v W', s.post enc C.prog fn false fresh handsOn false W args v W' → (s2.at F).post enc C.prog fn false fresh handsOn false W args v W')
  (hcall : ∀ (W : World) (base : Nat) (args : Array Value) (ds : List (DataW H)) (ps : List MemPlace), (∀ (j : Nat) t v, fn.params[j]? = some t → args[j]? = some v → Value.okWide C.prog W .any base t v) → DataW.TrodAll enc C.prog W 0 (fun _ => true) true fn.params.toList args.toList ds ps → k H ds = true → ∃ asx : List PV, ArgsRd W asx args ∧ Fn G C.prog f asx [.p (.bool true)]) (hG : G = [] := by rfl) :
  ReturnsInHanded {} C os f .any (s2.pre6 enc C.prog fn [] false) ((s2.at F).post enc C.prog fn false fresh handsOn false) := by
 refine returnsInHanded_of_cond hk own started noInit hfn witness ?_
 intro W base args ds gs before hval hW _ hkk _
 have hW0 : DataW.Whole enc C.prog fn.params.toList s.vars false W args.toList ds gs before := by rw [hvars, ← hv2]; exact hW
 have hW' := hW0
 obtain ⟨p, q, hA, hV, rfl, hfz, hnd⟩ := hW0
 have hV' : gs = [] ∧ q = [] := by rw [hvars] at hV; exact trodVars_none hV
 obtain ⟨rfl, rfl⟩ := hV'
 rw [List.append_nil] at hkk
 obtain ⟨asx, ⟨h1, h2⟩, h3⟩ := hcall W base args ds p hval hA hkk
 refine (h3 W (fun _ => False) args (fun _ h => h.elim) (fun x hx => by rw [hG] at hx; cases hx) h1 h2).mono ?_
 rintro e W' ⟨v, O', rfl, hg, _, hrt⟩
 have hv : v = .bool true := by
  have : Rd W' O' (.bool true) v := hrt
  cases this; rfl
 subst hv
 have hlen : ∀ {ts : List TypeId} {vs : List Value} {ds : List (DataW H)} {ps : List MemPlace}, DataW.TrodAll enc C.prog W 0 (fun _ => true) true ts vs ds ps → ds.length = ts.length := by
  intro ts
  induction ts with
  | nil => intro vs ds ps h; obtain ⟨_, rfl, _⟩ := trodAll_nil h; rfl
  | cons t ts ih => intro vs ds ps h; obtain ⟨v, vs', d, ds', p, q, rfl, rfl, rfl, h1, h2⟩ := trodAll_cons h; simp [ih h2]
 exact ⟨_, rfl, hpost _ _ _ _ (law_post hl hr hvars (by rw [List.append_nil] at hW'; rw [List.append_nil] at *; exact hW') hA hg hres hB (hs ds (by rw [hlen hA]; simp)))⟩
end
end Go.Abs

