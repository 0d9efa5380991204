/- The abstract layer that the proof stands on: no condition. -/
import Derived.Test.YtkfgkkbfipgklaaAbsB
import Derived.TacticsIn
import Derived.LoopNIn
import Derived.OwnWalkIn
import Derived.Laws.StructEq
namespace Go.Abs
open Go.RowKit

/-- Every function may be called; `ro`: the loop's record, in a round of a range over a function. -/
def FF (ro : Option Nat) : Fence := { Fence.wide with round := ro }

section
variable (ro : Option Nat) (P : Program) (c : Cx)

/-- In state `s` the end `e` of a piece of code is taken by `Q`. -/
def Post (Q : Exit → Act → World → Prop) (e : Exit) (s : St) : Prop := ∀ a w, Sim c s a w → Q e a w

/-- Code `k`, from state `s` on, meets `Q`. -/
def AW (k : Code) (Q : Exit → Act → World → Prop) (s : St) : Prop := ∀ a w, Sim c s a w → k.wpIn (FF ro) 0 P Q a w

/-- The operations `l` of the region `all`, from state `s` on. -/
def RegW (all : List Oper) (l : List Oper) (Q : Exit → Act → World → Prop) (s : St) : Prop := ∀ a w, Sim c s a w → wpListIn (FF ro) 0 P all.toArray Q l a w

/-- `m` rounds at most. -/
def RndW (k : Code) (Q : Exit → Act → World → Prop) (m : Nat) (s : St) : Prop := ∀ a w, Sim c s a w → Code.roundsIn (FF ro) 0 P k Q m a w

/-- Operation `o`, carried out in `s`, leaves `s'`. -/
def OpOk (o : Oper) (s s' : St) : Prop :=
  ∀ a w, Sim c s a w → ∀ (K : Act → World → Prop) (Q : Exit → Act → World → Prop), (∀ a' w', Sim c s' a' w' → K a' w') → o.wpIn (FF ro) 0 P a w K Q

/-- What the guard of `o` says in `s`: is it carried out? -/
def Guard (all : List Oper) (s : St) (o : Oper) (b : Bool) : Prop :=
  match o.guard with
  | none => b = true
  | some (j, want) => ∃ d, ((all[j]?).bind (·.dst)) = some d ∧ d < s.n ∧ ((∃ t, look d s.fr = some (.pv (.bool t)) ∧ b = (t == want)) ∨ (look d s.fr = some (.tup []) ∧ b = false))
end

section
variable {ro : Option Nat} {P : Program} {c : Cx} {Q : Exit → Act → World → Prop} {s s' : St}

theorem aw_skip (h : Post c Q .normal s) : AW ro P c .skip Q s := fun a w hs => wpIn_skip (h a w hs)
theorem aw_ret (h : Post c Q .ret s) : AW ro P c .ret Q s := fun a w hs => wpIn_ret (h a w hs)
theorem aw_exit {id : Nat} (h : Post c Q (.exit id) s) : AW ro P c (.exit id) Q s := fun a w hs => wpIn_exit (h a w hs)
theorem aw_seq {x y : Code} (h : AW ro P c x (Exit.then (y.wpIn (FF ro) 0 P Q) Q) s) : AW ro P c (.seq x y) Q s := fun a w hs => wpIn_seq (h a w hs)
theorem aw_block {id : Nat} {x : Code} (h : AW ro P c x (Exit.inBlock id Q) s) : AW ro P c (.block id x) Q s := fun a w hs => wpIn_block (h a w hs)
theorem aw_loop {x : Code} (m : Nat) (h : RndW ro P c x Q m s) : AW ro P c (.loop x) Q s := fun a w hs => wpIn_loop_rounds m (h a w hs)
theorem rnd_succ {x : Code} {m : Nat} (h : AW ro P c x (Exit.then (Code.roundsIn (FF ro) 0 P x Q m) Q) s) : RndW ro P c x Q (m + 1) s := fun a w hs => h a w hs
theorem post_next {y : Code} (h : AW ro P c y Q s) : Post c (Exit.then (y.wpIn (FF ro) 0 P Q) Q) .normal s := h
theorem post_round {x : Code} {m : Nat} (h : RndW ro P c x Q m s) : Post c (Exit.then (Code.roundsIn (FF ro) 0 P x Q m) Q) .normal s := h
theorem post_then_exit {K : Act → World → Prop} {id : Nat} (h : Post c Q (.exit id) s) : Post c (Exit.then K Q) (.exit id) s := h
theorem post_then_ret {K : Act → World → Prop} (h : Post c Q .ret s) : Post c (Exit.then K Q) .ret s := h
theorem post_block_ret {id : Nat} (h : Post c Q .ret s) : Post c (Exit.inBlock id Q) .ret s := h
theorem post_block_normal {id : Nat} (h : Post c Q .normal s) : Post c (Exit.inBlock id Q) .normal s := h
theorem post_block_exit {id : Nat} (h : Post c Q .normal s) : Post c (Exit.inBlock id Q) (.exit id) s := fun a w hs => by
  have := h a w hs
  simpa [Exit.inBlock] using this
theorem post_block_other {id id' : Nat} (hne : Nat.beq id id' = false) (h : Post c Q (.exit id') s) : Post c (Exit.inBlock id Q) (.exit id') s := fun a w hs => by
  have := h a w hs
  have hne' : ¬ id' = id := fun e => by subst e; simp at hne
  simpa [Exit.inBlock, hne'] using this

/-- What an operand is. -/
def cv : Value → Option PV
  | .int k n => some (.int k n)
  | .bool b => some (.bool b)
  | .string ⟨⟨l⟩⟩ => some (.str l)
  | .pointer none => some .nilp
  | .slice none 0 0 => some .nils
  | .nilFunc => some .nilf
  | _ => none
def ev (s : St) : Operand → Option AV
  | .tmp t => look t s.fr
  | .const v => (cv v).map .pv
  | .func f => some (.pv (.fn f []))
  | .global _ => none

theorem cv_ok {w : World} {O : Nat → Prop} {v : Value} {p : PV} (h : cv v = some p) : Rd w O p v := by
  unfold cv at h
  split at h <;> cases h
  · exact .int _ _
  · exact .bool _
  · exact .str _
  · exact .nilp
  · exact .nils
  · exact .nilf

theorem ev_ok {O : Nat → Prop} {θ : Nat → Option Value} {a : Act} {w : World} (h : SimAt c s O θ a w) {x : Operand} {v : AV} (hx : ev s x = some v) : RdA w O θ v (a.eval x) := by
  cases x with
  | tmp t => exact h.fr t v hx
  | const u =>
    simp only [ev, Option.map_eq_some_iff] at hx
    obtain ⟨p, hp, rfl⟩ := hx
    exact .pv _ _ (cv_ok hp)
  | global g => cases hx
  | func f =>
    cases hx
    exact .pv _ _ (.fn f [] #[] rfl (fun i c u hi _ => by simp at hi))

theorem aw_cond {x y : Code} {t : Operand} {b : Bool} (ht : ev s t = some (.pv (.bool b))) (h1 : b = true → AW ro P c x Q s) (h2 : b = false → AW ro P c y Q s) : AW ro P c (.cond t x y) Q s := by
  rintro a w ⟨O, θ, hs⟩
  have h := ev_ok hs ht
  cases h with
  | pv p v h =>
    generalize hv : a.eval t = v at h
    cases h
    refine wpIn_cond hv ?_
    cases b with
    | true => exact h1 rfl a w ⟨O, θ, hs⟩
    | false => exact h2 rfl a w ⟨O, θ, hs⟩

theorem aw_region {id : Nat} {l : List Oper} (h : RegW ro P c l l Q s) : AW ro P c (.region id l.toArray false) Q s := fun a w hs => wpIn_region_lit (h a w hs)
theorem reg_nil {all : List Oper} (h : Post c Q .normal s) : RegW ro P c all [] Q s := fun a w hs => wpListIn_nil (h a w hs)

theorem yielded_of {all : List Oper} {O : Nat → Prop} {θ : Nat → Option Value} {a : Act} {w : World} (h : SimAt c s O θ a w) {j d : Nat} {t : Bool}
    (h1 : ((all[j]?).bind (·.dst)) = some d) (h2 : d < s.n) (h3 : look d s.fr = some (.pv (.bool t))) : yielded all.toArray a.tmps j = some t := by
  have h4 := h.fr d _ h3
  have hd : d < a.tmps.size := by rw [h.size]; exact h2
  have h5 : a.tmps[d]? = some (a.tmps.getD d undef) := by simp [hd]
  cases h4 with
  | pv p v h4 =>
    generalize hv : a.tmps.getD d undef = v at h4 h5
    cases h4
    simp only [yielded, List.getElem?_toArray, h1, Option.bind_some, h5]

theorem guard_wanted {all : List Oper} {O : Nat → Prop} {θ : Nat → Option Value} {a : Act} {w : World} (h : SimAt c s O θ a w) {o : Oper} {b : Bool} (hg : Guard all s o b) :
    Region.wanted o (yielded all.toArray a.tmps) = b := by
  unfold Guard at hg
  unfold Region.wanted
  split at hg
  · rename_i e; rw [e, hg]
  · rename_i j want e
    obtain ⟨d, h1, h2, ⟨t, h3, rfl⟩ | ⟨h3, rfl⟩⟩ := hg
    · rw [e]
      simp only [yielded_of h h1 h2 h3]
      cases t <;> cases want <;> rfl
    · rw [e]
      have h4 := h.fr d _ h3
      have hd : d < a.tmps.size := by rw [h.size]; exact h2
      have h5 : a.tmps[d]? = some (a.tmps.getD d undef) := by simp [hd]
      generalize hv : a.tmps.getD d undef = v at h4 h5
      cases h4
      simp [yielded, List.getElem?_toArray, h1, Option.bind_some, h5]

theorem reg_cons {all rest : List Oper} {o : Oper} (hg : Guard all s o true) (ho : OpOk ro P c o s s') (h : RegW ro P c all rest Q s') : RegW ro P c all (o :: rest) Q s := by
  rintro a w ⟨O, θ, hs⟩
  simp only [wpListIn, guard_wanted hs hg, if_true]
  exact ho a w ⟨O, θ, hs⟩ _ _ h

/-- The slot that is written is none of those that are kept. -/
def ktB (s : St) : Option Nat → Bool
  | none => true
  | some d => !s.kt.elem d
theorem ktB_spec {s : St} {d : Option Nat} (h : ktB s d = true) : ∀ t, d = some t → t ∉ s.kt := by
  rintro t rfl
  simpa [ktB] using h

theorem reg_off {all rest : List Oper} {o : Oper} {d : Option Nat} (hg : Guard all s o false) (hd : o.dst = d) (hk : ktB s d = true) (h : RegW ro P c all rest Q (s.put d (some (.tup [])))) : RegW ro P c all (o :: rest) Q s := by
  rintro a w ⟨O, θ, hs⟩
  subst hd
  simp only [wpListIn, guard_wanted hs hg, Bool.false_eq_true, if_false]
  exact ⟨fun f _ => trivial, h _ _ ⟨O, θ, hs.skipU _ (ktB_spec hk)⟩⟩

/-- The slot that is written is one of the frame's. -/
def dOk (s : St) : Option Nat → Bool
  | none => true
  | some d => Nat.blt d s.n && !s.kt.elem d

theorem dOk_lt {s : St} {d : Option Nat} (h : dOk s d = true) : ∀ t, d = some t → t < s.n := by
  rintro t rfl
  simp only [dOk, Bool.and_eq_true] at h
  simpa [Nat.blt_eq] using h.1
theorem dOk_kt {s : St} {d : Option Nat} (h : dOk s d = true) : ∀ t, d = some t → t ∉ s.kt := by
  rintro t rfl
  simp only [dOk, Bool.and_eq_true] at h
  simpa using h.2

theorem opOk_value {o : Oper} {d : Option Nat} {x : AV} (hd : o.dst = d) (hn : dOk s d = true) (hdef : ∀ k, o.op ≠ .defer k)
    (h : ∀ a w O θ, SimAt c s O θ a w → ∃ v, (execOp a.eval o).run P w = .ok (.value v) w ∧ RdA w O θ x v) : OpOk ro P c o s (s.put d (some x)) := by
  rintro a w ⟨O, θ, hs⟩ K Q hK
  obtain ⟨v, hr, hv⟩ := h a w O θ hs
  refine ⟨fun f _ => trivial, ?_⟩
  rw [Oper.semAt_plain _ _ _ hdef, hr]
  subst hd
  exact hK _ _ ⟨O, θ, hs.put _ x v (dOk_lt hn) (dOk_kt hn) hv⟩

/-- The same, where the operation turns the memory too: the abstract state behind it, but for the slot written, is `s1`. -/
theorem opOk_mem {o : Oper} {d : Option Nat} {x : AV} {s1 : St} (hd : o.dst = d) (hn : dOk s1 d = true) (hdef : ∀ k, o.op ≠ .defer k)
    (h : ∀ a w O θ, SimAt c s O θ a w → ∃ v w' O' θ', (execOp a.eval o).run P w = .ok (.value v) w' ∧ SimAt c s1 O' θ' a w' ∧ RdA w' O' θ' x v) : OpOk ro P c o s (s1.put d (some x)) := by
  rintro a w ⟨O, θ, hs⟩ K Q hK
  obtain ⟨v, w', O', θ', hr, hs1, hv⟩ := h a w O θ hs
  refine ⟨fun f _ => trivial, ?_⟩
  rw [Oper.semAt_plain _ _ _ hdef, hr]
  subst hd
  exact hK _ _ ⟨O', θ', hs1.put _ x v (dOk_lt hn) (dOk_kt hn) hv⟩

theorem opOk_skip {o : Oper} {d : Option Nat} {s1 : St} (hd : o.dst = d) (hk : ktB s1 d = true) (hdef : ∀ k, o.op ≠ .defer k)
    (h : ∀ a w O θ, SimAt c s O θ a w → ∃ w' O' θ', (execOp a.eval o).run P w = .ok .skip w' ∧ SimAt c s1 O' θ' a w') : OpOk ro P c o s (s1.put d none) := by
  rintro a w ⟨O, θ, hs⟩ K Q hK
  obtain ⟨w', O', θ', hr, hs1⟩ := h a w O θ hs
  refine ⟨fun f _ => trivial, ?_⟩
  rw [Oper.semAt_plain _ _ _ hdef, hr]
  subst hd
  exact hK _ _ ⟨O', θ', hs1.skip _ _ (ktB_spec hk)⟩

theorem op_move {o : Oper} {d : Option Nat} {x : Operand} {v : AV} (ho : o.op = .move x) (hx : ev s x = some v) (hd : o.dst = d) (hn : dOk s d = true) : OpOk ro P c o s (s.put d (some v)) :=
  opOk_value hd hn (by rw [ho]; intro k h; cases h) fun a w O θ hs => ⟨a.eval x, by simp [execOp, ho], ev_ok hs hx⟩
theorem op_assign {o : Oper} {d : Option Nat} {x : Operand} {v : AV} (ho : o.op = .assign x) (hx : ev s x = some v) (hd : o.dst = d) (hn : dOk s d = true) : OpOk ro P c o s (s.put d (some v)) :=
  opOk_value hd hn (by rw [ho]; intro k h; cases h) fun a w O θ hs => ⟨a.eval x, by simp [execOp, ho], ev_ok hs hx⟩

theorem ev_bool {O : Nat → Prop} {θ : Nat → Option Value} {a : Act} {w : World} (h : SimAt c s O θ a w) {x : Operand} {b : Bool} (hx : ev s x = some (.pv (.bool b))) : a.eval x = .bool b := by
  have := ev_ok h hx
  cases this with | pv _ _ h => generalize a.eval x = v at h; cases h; rfl
theorem ev_int {O : Nat → Prop} {θ : Nat → Option Value} {a : Act} {w : World} (h : SimAt c s O θ a w) {x : Operand} {k : IntKind} {n : Int} (hx : ev s x = some (.pv (.int k n))) : a.eval x = .int k n := by
  have := ev_ok h hx
  cases this with | pv _ _ h => generalize a.eval x = v at h; cases h; rfl
theorem ev_str {O : Nat → Prop} {θ : Nat → Option Value} {a : Act} {w : World} (h : SimAt c s O θ a w) {x : Operand} {l : List UInt8} (hx : ev s x = some (.pv (.str l))) : a.eval x = .string ⟨l.toArray⟩ := by
  have := ev_ok h hx
  cases this with | pv _ _ h => generalize a.eval x = v at h; cases h; rfl
theorem ev_pv {O : Nat → Prop} {θ : Nat → Option Value} {a : Act} {w : World} (h : SimAt c s O θ a w) {x : Operand} {p : PV} (hx : ev s x = some (.pv p)) : Rd w O p (a.eval x) := by
  have := ev_ok h hx
  cases this with | pv _ _ h => exact h

theorem op_pick {o : Oper} {d : Option Nat} {x y z : Operand} {b : Bool} {v : AV} (ho : o.op = .pick x y z) (hx : ev s x = some (.pv (.bool b))) (hv : ev s (bif b then y else z) = some v)
    (hd : o.dst = d) (hn : dOk s d = true) : OpOk ro P c o s (s.put d (some v)) :=
  opOk_value hd hn (by rw [ho]; intro k h; cases h) fun a w O θ hs => by
    refine ⟨a.eval (bif b then y else z), ?_, ev_ok hs hv⟩
    have := ev_bool hs hx
    cases b <;> simp [execOp, ho, this, asBool]

/-- A binary operation on integers of one kind. -/
def intOp (op : BinOp) (k : IntKind) (m n : Int) : Option PV :=
  match op with
  | .add => some (.int k (k.wrap (m + n)))
  | .sub => some (.int k (k.wrap (m - n)))
  | .mul => some (.int k (k.wrap (m * n)))
  | .eql => some (.bool (m == n))
  | .neq => some (.bool (m != n))
  | .lss => some (.bool (decide (m < n)))
  | .leq => some (.bool (decide (m ≤ n)))
  | .gtr => some (.bool (decide (m > n)))
  | .geq => some (.bool (decide (m ≥ n)))
  | _ => none

theorem op_int {o : Oper} {d : Option Nat} {op : BinOp} {T T' : TypeId} {x y : Operand} {k : IntKind} {m n : Int} {r : PV} (ho : o.op = .binOp op T x y T') (hx : ev s x = some (.pv (.int k m))) (hy : ev s y = some (.pv (.int k n)))
    (hr : intOp op k m n = some r) (hd : o.dst = d) (hn : dOk s d = true) : OpOk ro P c o s (s.put d (some (.pv r))) :=
  opOk_value hd hn (by rw [ho]; intro k h; cases h) fun a w O θ hs => by
    have e1 := ev_int hs hx
    have e2 := ev_int hs hy
    cases op <;> simp only [intOp, Option.some.injEq] at hr <;> cases hr
    all_goals refine ⟨_, ?_, .pv _ _ (by constructor)⟩
    all_goals simp [execOp, ho, eqGuard, binOp, e1, e2, Op.intArith, Op.intCmp]
end
end Go.Abs
