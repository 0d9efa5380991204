/- The abstract layer that the proof stands on: no condition. -/
import Derived.Test.YtccladleehbmhaaDoorEventReadA1
import Derived.RangeFuncRecord
import Derived.Lib.Bytealg
import Derived.Laws.Externs
import Derived.Maps.Own
namespace Go.Abs
variable {G : List (Nat × List PV)}
open Go.RowKit

section
variable {ro : Option Nat} {P : Program} {c : Cx G} {Q : Exit → Act → World → Prop} {s s' : St}

/-! ### Where ways meet; loops -/
/-- Normally the code ends in a state of `I`; left otherwise it is as `Q` has it. -/
def Cut (c : Cx G) (Q : Exit → Act → World → Prop) (I : St → Prop) : Exit → Act → World → Prop
  | .normal, a, w => ∃ s, I s ∧ Sim c s a w
  | e, a, w => Q e a w

theorem aw_cut {k : Code} (I : St → Prop) (h : AW ro P c k (Cut c Q I) s) (h2 : ∀ s1, I s1 → Post c Q .normal s1) : AW ro P c k Q s := fun a w hs => by
  refine wpIn_mono (h a w hs) fun e a' w' he => ?_
  cases e with
  | normal => obtain ⟨s1, h3, h4⟩ := he; exact h2 s1 h3 a' w' h4
  | _ => exact he
theorem post_cut {I : St → Prop} (s1 : St) (hI : I s1) (hi : Imp c s s1) : Post c (Cut c Q I) .normal s := fun a w hs => ⟨s1, hI, hi a w hs⟩
theorem post_cut_ret {I : St → Prop} (h : Post c Q .ret s) : Post c (Cut c Q I) .ret s := h
/-- A loop in a block: it is left by the block's exit in a state of `I`. -/
def Lp (c : Cx G) (id : Nat) (Q : Exit → Act → World → Prop) (I : St → Prop) : Exit → Act → World → Prop
  | .normal, _, _ => False
  | .exit id', a, w => if id' = id then ∃ s, I s ∧ Sim c s a w else Q (.exit id') a w
  | e, a, w => Q e a w

theorem aw_for {id : Nat} {body : Code} (n : Nat) (I : St → Prop) (h : RndW ro P c body (Lp c id Q I) n s) (h2 : ∀ s1, I s1 → Post c Q .normal s1) : AW ro P c (.block id (.loop body)) Q s := by
  refine aw_block fun a w hs => ?_
  refine wpIn_mono (wpIn_loop_rounds n (h a w hs)) fun e a' w' he => ?_
  cases e with
  | normal => exact he.elim
  | exit id' =>
    simp only [Lp] at he
    simp only [Exit.inBlock]
    split at he
    · rename_i e; subst e
      obtain ⟨s1, h3, h4⟩ := he
      simpa using h2 s1 h3 a' w' h4
    · rename_i e
      simp [e, he]
  | _ => exact he
theorem post_lp_break {id : Nat} {I : St → Prop} (s1 : St) (hI : I s1) (hi : Imp c s s1) : Post c (Lp c id Q I) (.exit id) s := fun a w hs => by
  simp only [Lp, if_true]
  exact ⟨s1, hI, hi a w hs⟩
theorem post_lp_ret {id : Nat} {I : St → Prop} (h : Post c Q .ret s) : Post c (Lp c id Q I) .ret s := h
theorem aw_cond_t {x y : Code} {t : Operand} {b : Bool} (ht : ev s t = some (.pv (.bool b))) (hb : b = true) (h1 : AW ro P c x Q s) : AW ro P c (.cond t x y) Q s :=
  aw_cond ht (fun _ => h1) (fun h => by rw [hb] at h; cases h)
theorem aw_cond_f {x y : Code} {t : Operand} {b : Bool} (ht : ev s t = some (.pv (.bool b))) (hb : b = false) (h1 : AW ro P c y Q s) : AW ro P c (.cond t x y) Q s :=
  aw_cond ht (fun h => by rw [hb] at h; cases h) (fun _ => h1)

theorem guard_on {all : List Oper} {o : Oper} {j d : Nat} {want t : Bool} (hg : o.guard = some (j, want)) (hj : ((all[j]?).bind (·.dst)) = some d) (hn : Nat.blt d s.n = true) (hl : look d s.fr = some (.pv (.bool t))) (ht : t = want) : Guard all s o true := by
  unfold Guard; rw [hg]; exact ⟨d, hj, by simpa [Nat.blt_eq] using hn, .inl ⟨t, hl, by subst ht; simp⟩⟩
theorem guard_off {all : List Oper} {o : Oper} {j d : Nat} {want t : Bool} (hg : o.guard = some (j, want)) (hj : ((all[j]?).bind (·.dst)) = some d) (hn : Nat.blt d s.n = true) (hl : look d s.fr = some (.pv (.bool t))) (ht : t = !want) : Guard all s o false := by
  unfold Guard; rw [hg]; exact ⟨d, hj, by simpa [Nat.blt_eq] using hn, .inl ⟨t, hl, by subst ht; cases want <;> rfl⟩⟩
theorem guard_undef {all : List Oper} {o : Oper} {j d : Nat} {want : Bool} (hg : o.guard = some (j, want)) (hj : ((all[j]?).bind (·.dst)) = some d) (hn : Nat.blt d s.n = true) (hl : look d s.fr = some (.tup [])) : Guard all s o false := by
  unfold Guard; rw [hg]; exact ⟨d, hj, by simpa [Nat.blt_eq] using hn, .inr ⟨hl, rfl⟩⟩
theorem guard_no {all : List Oper} {o : Oper} (hg : o.guard = none) : Guard all s o true := by unfold Guard; rw [hg]

theorem op_pick_t {o : Oper} {d : Option Nat} {x y z : Operand} {b : Bool} {v : AV} (ho : o.op = .pick x y z) (hx : ev s x = some (.pv (.bool b))) (hb : b = true) (hv : ev s y = some v) (hd : o.dst = d) (hn : dOk s d = true) : OpOk ro P c o s (s.put d (some v)) :=
  op_pick ho hx (by rw [hb]; exact hv) hd hn
theorem op_pick_f {o : Oper} {d : Option Nat} {x y z : Operand} {b : Bool} {v : AV} (ho : o.op = .pick x y z) (hx : ev s x = some (.pv (.bool b))) (hb : b = false) (hv : ev s z = some v) (hd : o.dst = d) (hn : dOk s d = true) : OpOk ro P c o s (s.put d (some v)) :=
  op_pick ho hx (by rw [hb]; exact hv) hd hn

/-! ### F's way of saying that something fails -/
theorem bind_some {α β : Type} {x : Option α} {k : α → Option β} {r : β} (h : x.bind k = some r) : ∃ y, x = some y ∧ k y = some r := by
  cases x with
  | none => cases h
  | some y => exact ⟨y, rfl, h⟩
theorem ite_some {β : Type} {b : Bool} {x y : Option β} {r : β} (h : (if b = true then x else y) = some r) : (b = true ∧ x = some r) ∨ (b = false ∧ y = some r) := by
  cases b with
  | true => exact .inl ⟨rfl, by simpa using h⟩
  | false => exact .inr ⟨rfl, by simpa using h⟩
/-- `n` elements of `b` bytes each have room. -/
def room (n : Int) (b : Int) : Option Unit := if n * b ≤ 140737488355328 then some () else none
theorem room_spec {n b : Int} {u : Unit} (h : room n b = some u) : n * b ≤ 140737488355328 := by
  unfold room at h; split at h
  · assumption
  · cases h
theorem room_nat {n m b : Nat} {u : Unit} (h : room ((n : Int) + (m : Int)) (b : Int) = some u) : (n + m) * b ≤ 140737488355328 := by
  have := room_spec h
  rw [← Int.natCast_add, ← Int.natCast_mul] at this
  omega

theorem room_map {α β γ : Type} {f : α → γ} {g : β → γ} {l : List α} {m : List β} {b : Nat} {u : Unit} (h : room ((l.length : Int) + (m.length : Int)) (b : Int) = some u) : ((l.map f).length + (m.map g).length) * b ≤ 140737488355328 := by
  rw [List.length_map, List.length_map]; exact room_nat h
/-- A make of length `n` and capacity `m`. -/
def mkOk (n m b : Int) : Option Unit := if 0 ≤ n ∧ n ≤ m ∧ m * b ≤ 140737488355328 then some () else none
theorem mkOk_spec {n m b : Int} {u : Unit} (h : mkOk n m b = some u) : 0 ≤ n ∧ n ≤ m ∧ m * b ≤ 140737488355328 := by
  unfold mkOk at h; split at h
  · assumption
  · cases h
theorem map_rep {α β : Type} (f : α → β) (n : Nat) (x : α) : List.replicate n (f x) = (List.replicate n x).map f := by simp
theorem map_set' {α β : Type} (f : α → β) (l : List α) (i : Nat) (x : α) : (l.map f).set i (f x) = (l.set i x).map f := by simp
theorem map_get {α β : Type} (f : α → β) {l : List α} {i : Int} {y : α} (h : idx l i = some y) : (l.map f)[i.toNat]? = some (f y) := by
  rw [List.getElem?_map, (idx_spec h).2.1]; rfl

/-- What a piece of code comes to that may leave: the whole answer, or what goes on. -/
inductive Ctl (R S : Type) where
  | stop (r : R)
  | next (s : S)
def Ctl.go {R S : Type} : Ctl (Option R) S → (S → Option R) → Option R
  | .stop a, _ => a
  | .next s, k => k s
/-- A test that may fail, ahead of what may leave. -/
def obind {α R S : Type} : Option α → (α → Ctl (Option R) S) → Ctl (Option R) S
  | none, _ => .stop none
  | some x, k => k x
theorem go_bind {α R S : Type} {x : Option α} {f : α → Ctl (Option R) S} {k : S → Option R} {r : R} (h : Ctl.go (obind x f) k = some r) : ∃ y, x = some y ∧ Ctl.go (f y) k = some r := by
  cases x with
  | none => cases h
  | some y => exact ⟨y, rfl, h⟩
theorem go_ite {R S : Type} {b : Bool} {x y : Ctl (Option R) S} {k : S → Option R} {r : R} (h : Ctl.go (if b = true then x else y) k = some r) : (b = true ∧ Ctl.go x k = some r) ∨ (b = false ∧ Ctl.go y k = some r) := by
  cases b with
  | true => exact .inl ⟨rfl, by simpa using h⟩
  | false => exact .inr ⟨rfl, by simpa using h⟩
theorem aw_join {k : Code} {R S : Type} {X : Ctl (Option R) S} {kk : S → Option R} {r : R} (_hF : Ctl.go X kk = some r) (F : S → St) (h : AW ro P c k (Cut c Q fun s1 => ∃ p, s1 = F p ∧ kk p = some r) s) (h2 : ∀ p, kk p = some r → Post c Q .normal (F p)) : AW ro P c k Q s :=
  aw_cut _ h (by rintro _ ⟨p, rfl, hp⟩; exact h2 p hp)

/-- A loop's rounds, by the number that is left. -/
theorem rnd_loop {α : Type} {body : Code} {m : Nat} (S : α → St) (Inv : Nat → α → Prop) (x0 : α) (hi : Imp c s (S x0)) (h0 : Inv m x0) (hz : ∀ x, ¬ Inv 0 x)
    (hs : ∀ n x, Inv (n + 1) x → (∀ x', Inv n x' → RndW ro P c body Q n (S x')) → RndW ro P c body Q (n + 1) (S x)) : RndW ro P c body Q m s := by
  refine rnd_imp hi ?_
  have : ∀ n x, Inv n x → RndW ro P c body Q n (S x) := by
    intro n
    induction n with
    | zero => intro x h; exact absurd h (hz x)
    | succ n ih => intro x h; exact hs n x h ih
  exact this m x0 h0

theorem nolent3 {w : World} {O : Nat → Prop} : ∀ g, ¬ (Fn.cx (G := G) w O).L g := fun _ h => h

def FzH (hp : List (Nat × Option Blk)) : List (Nat × Option Blk) → Prop
  | [] => True
  | (id, some b) :: l => look id hp = some b ∧ FzH hp l
  | (_, none) :: _ => False
theorem FzH.spec {hp : List (Nat × Option Blk)} : ∀ {fz : List (Nat × Option Blk)}, FzH hp fz → ∀ x ∈ fz, ∃ b, x.2 = some b ∧ look x.1 hp = some b
  | [], _, x, hx => by simp at hx
  | (id, some b) :: l, h, x, hx => by
    rcases List.mem_cons.1 hx with e | e
    · subst e; exact ⟨b, rfl, h.1⟩
    · exact FzH.spec h.2 x e
  | (_, none) :: _, h, _, _ => h.elim

theorem evl_nil : evl s [] = some [] := rfl
theorem evl_cons {x : Operand} {l : List Operand} {v : AV} {vs : List AV} (h1 : ev s x = some v) (h2 : evl s l = some vs) : evl s (x :: l) = some (v :: vs) := by simp [evl, h1, h2]
theorem evs_nil : evs s [] = some [] := rfl
theorem evs_cons {i : Nat} {x : Operand} {l : List (Nat × Operand)} {v : AV} {vs : List (Nat × AV)} (h1 : ev s x = some v) (h2 : evs s l = some vs) : evs s ((i, x) :: l) = some ((i, v) :: vs) := by simp [evs, h1, h2]
theorem evo_some {x : Operand} {k : IntKind} {n : Int} (h1 : ev s x = some (.pv (.int k n))) : evo s (some x) = some (some n) := by simp [evo, h1]
/-! ### nil slices -/
theorem imp_nil_vs (t sz : Nat) (h : look t s.fr = some (.pv .nils)) : Imp c s { s with fr := (t, some (.pv (.vs sz []))) :: s.fr } := by
  rintro a w ⟨O, θ, hs⟩
  refine ⟨O, θ, hs.size, hs.df, ?_, hs.hp, hs.inj, hs.dom, hs.flt, hs.one, hs.olt, hs.ext, hs.xo, hs.xlt, hs.llt, hs.marks, hs.oc, hs.kp, hs.jn⟩
  intro t' x hx
  simp only [look_cons] at hx
  split at hx
  · rename_i e; subst e; cases hx
    have := rda_pv (hs.fr _ _ h)
    generalize a.tmps.getD t undef = v at this ⊢
    cases this
    exact .pv _ _ (.vs0 sz)
  · exact hs.fr _ _ hx

theorem imp_nil_own (t e sz kk : Nat) (hk : freshB s kk = true) (h : look t s.fr = some (.pv .nils)) : Imp c s ((s.addAt kk none (.row e sz [])).put (some t) (some (.ls kk))) := by
  rintro a w ⟨O, θ, hs⟩
  obtain ⟨O', θ', h1, h2, h3, h4⟩ := hs.addAt (w' := w) (row := none) (v := .slice none 0 0) (b := .row e sz []) kk hk none (by simp) (fun _ => rfl) ⟨rfl, rfl, rfl, Nat.le_refl _, fun _ _ _ => rfl⟩ (by simp [blkOf]) rfl
      (fun O' θ' _ _ => ⟨[], ownsW_nil w e sz, ⟨by simp, by simp, by simp, fun i j row x u h => by simp at h⟩⟩)
  refine ⟨O', θ', h4.size, h4.df, ?_, h4.hp, h4.inj, h4.dom, h4.flt, h4.one, h4.olt, h4.ext, h4.xo, h4.xlt, h4.llt, h4.marks, h4.oc, h4.kp, h4.jn⟩
  intro t' x hx
  simp only [St.put, look_cons] at hx
  split at hx
  · rename_i e; subst e; cases hx
    have := rda_pv (hs.fr _ _ h)
    generalize a.tmps.getD t undef = v at this ⊢
    cases this
    exact .ls _ _ h3
  · exact h4.fr _ _ hx

variable {o : Oper} {d : Option Nat}
end
end Go.Abs

namespace Go.Abs
variable {G : List (Nat × List PV)}
open Go.RowKit

/-- What one operation of a region that draws its order wants, and what it does. -/
structure Eff where
  need : List (Nat × AV) := []
  hneed : List (Nat × Blk) := []
  names : List Nat := []
  dst : Option Nat := none
  val : Option AV := none
  upd : List (Nat × Option Blk) := []

/-- The part of a state that a region turns. -/
structure Mid where
  fr : List (Nat × Option AV)
  hp : List (Nat × Option Blk)
  free : List Nat

def Mid.st (m : Mid) (n : Nat) (df : List Deferred) (next : Nat) (ys : Nat) (kt : List Nat) : St := { n := n, fr := m.fr, hp := m.hp, next := next, df := df, free := m.free, ys := ys, kt := kt }

def Eff.apply (e : Eff) (m : Mid) : Mid :=
  { fr := match e.dst with | some d => (d, e.val) :: m.fr | none => m.fr, hp := e.upd ++ m.hp, free := match e.names with | [] => m.free | ns => m.free.filter fun x => !(ns.elem x) }

def HasT (fr : List (Nat × Option AV)) : List (Nat × AV) → Prop
  | [] => True
  | (t, x) :: l => look t fr = some x ∧ HasT fr l
def HasH (hp : List (Nat × Option Blk)) : List (Nat × Blk) → Prop
  | [] => True
  | (id, b) :: l => look id hp = some b ∧ HasH hp l
def HasN (free : List Nat) : List Nat → Prop
  | [] => True
  | k :: l => free.elem k = true ∧ HasN free l
def Has (e : Eff) (m : Mid) : Prop := HasT m.fr e.need ∧ HasH m.hp e.hneed ∧ HasN m.free e.names

theorem HasT.iff {fr : List (Nat × Option AV)} : ∀ {l : List (Nat × AV)}, HasT fr l ↔ ∀ t x, (t, x) ∈ l → look t fr = some x
  | [] => by simp [HasT]
  | (t, x) :: l => by
    simp only [HasT, HasT.iff (l := l), List.mem_cons]
    constructor
    · rintro ⟨h1, h2⟩ t' x' (h | h)
      · cases h; exact h1
      · exact h2 t' x' h
    · intro h
      exact ⟨h t x (.inl rfl), fun t' x' h' => h t' x' (.inr h')⟩
theorem HasH.iff {hp : List (Nat × Option Blk)} : ∀ {l : List (Nat × Blk)}, HasH hp l ↔ ∀ t x, (t, x) ∈ l → look t hp = some x
  | [] => by simp [HasH]
  | (t, x) :: l => by
    simp only [HasH, HasH.iff (l := l), List.mem_cons]
    constructor
    · rintro ⟨h1, h2⟩ t' x' (h | h)
      · cases h; exact h1
      · exact h2 t' x' h
    · intro h
      exact ⟨h t x (.inl rfl), fun t' x' h' => h t' x' (.inr h')⟩
theorem HasN.iff {free : List Nat} : ∀ {l : List Nat}, HasN free l ↔ ∀ k ∈ l, k ∈ free
  | [] => by simp [HasN]
  | k :: l => by simp [HasN, HasN.iff (l := l)]

section
variable (ro : Option Nat) (P : Program) (c : Cx G)
/-- One operation: carried out, or passed over. -/
def StepOk (all : List Oper) (o : Oper) (s s' : St) : Prop := (Guard all s o true ∧ OpOk ro P c o s s') ∨ (Guard all s o false ∧ ktB s o.dst = true ∧ s' = s.put o.dst (some (.tup [])))

/-- Each operation does what its effect says, in whatever state that has what it wants. -/
def OpFacts (all : List Oper) (n : Nat) (df : List Deferred) (next : Nat) (ys : Nat) (kt : List Nat) : List Oper → List Eff → Prop
  | [], [] => True
  | o :: os, e :: es => (∀ m : Mid, Has e m → StepOk ro P c all o (m.st n df next ys kt) ((e.apply m).st n df next ys kt)) ∧ OpFacts all n df next ys kt os es
  | _, _ => False
end

/-- In the text's order each finds what it wants. -/
def TextOk : List Eff → Mid → Prop
  | [], _ => True
  | e :: es, m => Has e m ∧ TextOk es (e.apply m)

/-! The order. -/
def wT (e : Eff) : List Nat := e.dst.toList
def rT (e : Eff) : List Nat := e.need.map (·.1)
def wH (e : Eff) : List Nat := e.upd.map (·.1)
def rH (e : Eff) : List Nat := e.hneed.map (·.1)
def clash (a b : Eff) : Bool :=
  (wT a).any (fun t => (wT b).elem t || (rT b).elem t) || (wT b).any (fun t => (rT a).elem t) ||
  (wH a).any (fun t => (wH b).elem t || (rH b).elem t) || (wH b).any (fun t => (rH a).elem t)

/-- Operation `j` waits, by edges, for `i`. -/
inductive Anc (ops : List Oper) (i : Nat) : Nat → Prop
  | one (j : Nat) (o : Oper) (e : Edge) (ho : ops[j]? = some o) (he : e ∈ o.after) (hb : Region.binds .any e = true) (hi : e.on = i) : Anc ops i j
  | more (j : Nat) (o : Oper) (e : Edge) (ho : ops[j]? = some o) (he : e ∈ o.after) (hb : Region.binds .any e = true) (h : Anc ops i e.on) : Anc ops i j

def edgesOf (o : Oper) : List Nat := (o.after.toList.filter (Region.binds .any)).map (·.on)
/-- For each operation the set of those that it waits for. -/
def ancs : List Oper → List Nat → List Nat
  | [], acc => acc
  | o :: os, acc => ancs os (acc ++ [(edgesOf o).foldl (fun m k => m ||| (2 ^ k) ||| acc.getD k 0) 0])
def edgesB : Nat → List Oper → Bool
  | _, [] => true
  | i, o :: os => (edgesOf o).all (fun k => Nat.blt k i) && edgesB (i + 1) os
def clashB (masks : List Nat) (es : List Eff) : Bool :=
  (List.range es.length).all fun j => match es[j]? with
    | some ej => (List.range j).all fun i => match es[i]? with
      | some ei => !(clash ei ej) || Nat.testBit (masks.getD j 0) i
      | none => true
    | none => true
def namesB (es : List Eff) : Bool := es.all fun e => e.names.all fun k => (wH e).elem k
def orderB (ops : List Oper) (es : List Eff) : Bool := edgesB 0 ops && (clashB (ancs ops []) es && namesB es)

theorem edgesB_spec : ∀ (os : List Oper) (k : Nat), edgesB k os = true → ∀ i o, os[i]? = some o → ∀ x ∈ edgesOf o, x < k + i
  | [], k, h, i, o, ho, x, hx => by simp at ho
  | o' :: os, k, h, i, o, ho, x, hx => by
    simp only [edgesB, Bool.and_eq_true, List.all_eq_true] at h
    cases i with
    | zero => simp at ho; subst ho; have := h.1 x hx; simpa [Nat.blt_eq] using this
    | succ i =>
      have := edgesB_spec os (k + 1) h.2 i o (by simpa using ho) x hx
      omega

theorem mem_edgesOf {o : Oper} {k : Nat} : k ∈ edgesOf o ↔ ∃ e ∈ o.after, Region.binds .any e = true ∧ e.on = k := by
  simp only [edgesOf, List.mem_map, List.mem_filter, Array.mem_toList_iff]
  constructor
  · rintro ⟨e, ⟨h1, h2⟩, h3⟩; exact ⟨e, h1, h2, h3⟩
  · rintro ⟨e, h1, h2, h3⟩; exact ⟨e, ⟨h1, h2⟩, h3⟩

theorem foldl_or_spec (acc : List Nat) (i : Nat) : ∀ (l : List Nat) (m : Nat), Nat.testBit (l.foldl (fun m k => m ||| (2 ^ k) ||| acc.getD k 0) m) i = true → Nat.testBit m i = true ∨ ∃ k ∈ l, k = i ∨ Nat.testBit (acc.getD k 0) i = true
  | [], m, h => .inl h
  | k :: l, m, h => by
    rcases foldl_or_spec acc i l _ h with h1 | ⟨k', h1, h2⟩
    · simp only [Nat.testBit_or, Bool.or_eq_true, Nat.testBit_two_pow, decide_eq_true_eq] at h1
      rcases h1 with (h1 | h1) | h1
      · exact .inl h1
      · exact .inr ⟨k, by simp, .inl h1⟩
      · exact .inr ⟨k, by simp, .inr h1⟩
    · exact .inr ⟨k', by simp [h1], h2⟩

theorem ancs_spec (ops : List Oper) (i : Nat) : ∀ (os : List Oper) (pre : List Oper) (acc : List Nat), ops = pre ++ os → acc.length = pre.length → (∀ j, Nat.testBit (acc.getD j 0) i = true → Anc ops i j) → ∀ j, Nat.testBit ((ancs os acc).getD j 0) i = true → Anc ops i j
  | [], pre, acc, _, _, h, j, hj => h j hj
  | o :: os, pre, acc, he, hl, h, j, hj => by
    refine ancs_spec ops i os (pre ++ [o]) _ (by simp [he]) (by simp [hl]) ?_ j hj
    intro j hj
    simp only [List.getD, List.getElem?_append] at hj
    split at hj
    · exact h j (by simpa [List.getD] using hj)
    · rename_i hlt
      by_cases hj0 : j - acc.length = 0
      · rw [hj0] at hj
        simp only [List.getElem?_cons_zero, Option.getD_some] at hj
        have hjl : j = pre.length := by omega
        have ho : ops[j]? = some o := by rw [he, hjl]; simp
        rcases foldl_or_spec acc i (edgesOf o) 0 hj with h1 | ⟨k, h1, h2⟩
        · simp at h1
        · obtain ⟨e, e1, e2, e3⟩ := mem_edgesOf.1 h1
          rcases h2 with h2 | h2
          · exact .one j o e ho e1 e2 (e3.trans h2)
          · exact .more j o e ho e1 e2 (by rw [e3]; exact h k h2)
      · have : ¬ (j - acc.length < 1) := by omega
        rw [List.getElem?_eq_none (by simp; omega)] at hj
        simp at hj

theorem orderB_spec {ops : List Oper} {es : List Eff} (h : orderB ops es = true) : (∀ i o, ops[i]? = some o → ∀ x ∈ edgesOf o, x < i) ∧ (∀ i j ei ej, i < j → es[i]? = some ei → es[j]? = some ej → clash ei ej = true → Anc ops i j) ∧ ∀ e ∈ es, ∀ k ∈ e.names, k ∈ wH e := by
  simp only [orderB, Bool.and_eq_true] at h
  refine ⟨fun i o ho x hx => by have := edgesB_spec ops 0 h.1 i o ho x hx; omega, fun i j ei ej hij hi hj hc => ?_, fun e he k hk => by
    have := List.all_eq_true.1 h.2.2 e he
    have := List.all_eq_true.1 this k hk
    simpa using this⟩
  have h2 := h.2.1
  simp only [clashB, List.all_eq_true, List.mem_range] at h2
  have hjl : j < es.length := (List.getElem?_eq_some_iff.1 hj).1
  have := h2 j hjl
  rw [hj] at this
  simp only [List.all_eq_true, List.mem_range] at this
  have := this i hij
  rw [hi] at this
  simp only [hc, Bool.not_true, Bool.false_or] at this
  exact ancs_spec ops i ops [] [] rfl rfl (by intro j h; simp at h) j this

/-! Those of `p`, in the text's order. -/
def runP (p : Nat → Bool) : Nat → List Eff → Mid → Mid
  | _, [], m => m
  | k, e :: es, m => runP p (k + 1) es (bif p k then e.apply m else m)

theorem look_cons_ne {α : Type} {t k : Nat} (x : Option α) (l : List (Nat × Option α)) (h : k ≠ t) : look t ((k, x) :: l) = look t l := by rw [look_cons, if_neg h]
theorem look_apply_fr {e : Eff} {m : Mid} {t : Nat} (h : t ∉ wT e) : look t (e.apply m).fr = look t m.fr := by
  unfold Eff.apply
  cases hd : e.dst with
  | none => rfl
  | some d => simp only; exact look_cons_ne _ _ (fun e' => h (by simp [wT, hd, e']))
theorem look_append_ne {α : Type} {t : Nat} : ∀ {l m : List (Nat × Option α)}, t ∉ l.map (·.1) → look t (l ++ m) = look t m
  | [], _, _ => rfl
  | (k, x) :: l, m, h => by
    simp only [List.map_cons, List.mem_cons, not_or] at h
    rw [List.cons_append, look_cons_ne _ _ (fun e => h.1 e.symm)]
    exact look_append_ne h.2
theorem look_append_in {α : Type} {t : Nat} : ∀ {l m m' : List (Nat × Option α)}, t ∈ l.map (·.1) → look t (l ++ m) = look t (l ++ m')
  | [], _, _, h => by simp at h
  | (k, x) :: l, m, m', h => by
    by_cases e : k = t
    · subst e; simp [look_cons]
    · rw [List.cons_append, List.cons_append, look_cons_ne _ _ e, look_cons_ne _ _ e]
      simp only [List.map_cons, List.mem_cons] at h
      rcases h with h | h
      · exact absurd h.symm e
      · exact look_append_in h
theorem look_apply_hp {e : Eff} {m : Mid} {t : Nat} (h : t ∉ wH e) : look t (e.apply m).hp = look t m.hp :=
  look_append_ne h
theorem mem_apply_free {e : Eff} {m : Mid} {t : Nat} : t ∈ (e.apply m).free ↔ t ∈ m.free ∧ t ∉ e.names := by
  unfold Eff.apply
  cases h : e.names with
  | nil => simp
  | cons k l => simp
theorem free_apply {e : Eff} {m : Mid} {t : Nat} (h : t ∉ e.names) : t ∈ (e.apply m).free ↔ t ∈ m.free := by
  rw [mem_apply_free]; simp [h]

/-- Two choices that agree on whoever writes the slot. -/
theorem runP_fr {p q : Nat → Bool} {t : Nat} : ∀ (es : List Eff) (k : Nat) (m m' : Mid), look t m.fr = look t m'.fr → (∀ j e, es[j]? = some e → t ∈ wT e → p (k + j) = q (k + j)) → look t (runP p k es m).fr = look t (runP q k es m').fr
  | [], _, _, _, h, _ => h
  | e :: es, k, m, m', h, hpq => by
    refine runP_fr es (k + 1) _ _ ?_ fun j e' hj ht => by have := hpq (j + 1) e' (by simpa using hj) ht; rw [show k + 1 + j = k + (j + 1) by omega]; exact this
    by_cases ht : t ∈ wT e
    · have := hpq 0 e rfl ht
      simp only [Nat.add_zero] at this
      rw [this]
      cases q k with
      | false => exact h
      | true =>
        simp only [cond_true]
        unfold Eff.apply
        cases hd : e.dst with
        | none => simp [wT, hd] at ht
        | some d => simp only [wT, hd, Option.toList_some, List.mem_singleton] at ht; subst ht; simp [look_cons]
    · have e1 : look t (bif p k then e.apply m else m).fr = look t m.fr := by cases p k with
        | false => rfl
        | true => exact look_apply_fr ht
      have e2 : look t (bif q k then e.apply m' else m').fr = look t m'.fr := by cases q k with
        | false => rfl
        | true => exact look_apply_fr ht
      rw [e1, e2, h]
theorem runP_hp {p q : Nat → Bool} {t : Nat} : ∀ (es : List Eff) (k : Nat) (m m' : Mid), look t m.hp = look t m'.hp → (∀ j e, es[j]? = some e → t ∈ wH e → p (k + j) = q (k + j)) → look t (runP p k es m).hp = look t (runP q k es m').hp
  | [], _, _, _, h, _ => h
  | e :: es, k, m, m', h, hpq => by
    refine runP_hp es (k + 1) _ _ ?_ fun j e' hj ht => by have := hpq (j + 1) e' (by simpa using hj) ht; rw [show k + 1 + j = k + (j + 1) by omega]; exact this
    by_cases ht : t ∈ wH e
    · have := hpq 0 e rfl ht
      simp only [Nat.add_zero] at this
      rw [this]
      cases q k with
      | false => exact h
      | true =>
        simp only [cond_true, Eff.apply]
        by_cases hu : t ∈ e.upd.map (·.1)
        · exact look_append_in hu
        · rw [look_append_ne hu, look_append_ne hu, h]
    · have e1 : look t (bif p k then e.apply m else m).hp = look t m.hp := by cases p k with
        | false => rfl
        | true => exact look_apply_hp ht
      have e2 : look t (bif q k then e.apply m' else m').hp = look t m'.hp := by cases q k with
        | false => rfl
        | true => exact look_apply_hp ht
      rw [e1, e2, h]
theorem runP_free {p q : Nat → Bool} {t : Nat} : ∀ (es : List Eff) (k : Nat) (m m' : Mid), (t ∈ m.free ↔ t ∈ m'.free) → (∀ j e, es[j]? = some e → t ∈ e.names → p (k + j) = q (k + j)) → (t ∈ (runP p k es m).free ↔ t ∈ (runP q k es m').free)
  | [], _, _, _, h, _ => h
  | e :: es, k, m, m', h, hpq => by
    refine runP_free es (k + 1) _ _ ?_ fun j e' hj ht => by have := hpq (j + 1) e' (by simpa using hj) ht; rw [show k + 1 + j = k + (j + 1) by omega]; exact this
    by_cases ht : t ∈ e.names
    · have := hpq 0 e rfl ht
      simp only [Nat.add_zero] at this
      rw [this]
      cases q k with
      | false => exact h
      | true => simp only [cond_true, mem_apply_free, h]
    · have e1 : t ∈ (bif p k then e.apply m else m).free ↔ t ∈ m.free := by cases p k with
        | false => exact Iff.rfl
        | true => exact free_apply ht
      have e2 : t ∈ (bif q k then e.apply m' else m').free ↔ t ∈ m'.free := by cases q k with
        | false => exact Iff.rfl
        | true => exact free_apply ht
      rw [e1, e2, h]

/-- The text's order, cut ahead of `i`, is the choice of those ahead of `i`. -/
theorem textOk_has : ∀ (es : List Eff) (k : Nat) (m : Mid), TextOk es m → ∀ i e, es[i]? = some e → Has e (runP (fun j => Nat.blt j (k + i)) k (es.take i) m)
  | [], _, _, _, i, e, h => by simp at h
  | e' :: es, k, m, h, 0, e, hi => by simp at hi; subst hi; exact h.1
  | e' :: es, k, m, h, i + 1, e, hi => by
    have := textOk_has es (k + 1) (e'.apply m) h.2 i e (by simpa using hi)
    simp only [List.take_succ_cons, runP]
    have hb : Nat.blt k (k + (i + 1)) = true := by simp [Nat.blt_eq]
    rw [hb, cond_true, show k + (i + 1) = k + 1 + i by omega]
    exact this
theorem runP_congr {p q : Nat → Bool} : ∀ (es : List Eff) (k : Nat) (m : Mid), (∀ j, j < es.length → p (k + j) = q (k + j)) → runP p k es m = runP q k es m
  | [], _, _, _ => rfl
  | e :: es, k, m, h => by
    have h0 := h 0 (by simp)
    simp only [Nat.add_zero] at h0
    simp only [runP, h0]
    exact runP_congr es (k + 1) _ fun j hj => by have := h (j + 1) (by simp; omega); rw [show k + 1 + j = k + (j + 1) by omega]; exact this
theorem runP_none : ∀ (es : List Eff) (k : Nat) (m : Mid), runP (fun _ => false) k es m = m
  | [], _, _ => rfl
  | e :: es, k, m => by simp only [runP, cond_false]; exact runP_none es (k + 1) m
theorem runP_take (es : List Eff) : ∀ (i k : Nat) (m : Mid), runP (fun j => Nat.blt j (k + i)) k (es.take i) m = runP (fun j => Nat.blt j (k + i)) k es m := by
  induction es with
  | nil => intro i k m; simp [runP]
  | cons e es ih =>
    intro i k m
    cases i with
    | zero =>
      simp only [List.take_zero, runP]
      rw [runP_congr (q := fun _ => false) es (k + 1) _ (fun j _ => by simp [Nat.blt_eq, Bool.eq_false_iff]; omega)]
      rw [runP_none]
      simp [Bool.eq_false_iff.2 (show ¬ Nat.blt k k = true by simp [Nat.blt_eq])]
    | succ i =>
      simp only [List.take_succ_cons, runP]
      have := ih i (k + 1) (bif Nat.blt k (k + (i + 1)) then e.apply m else m)
      rw [show k + (i + 1) = k + 1 + i by omega] at this ⊢
      exact this

/-- The last that writes a slot. -/
theorem runP_last {q : Nat → Bool} {t : Nat} : ∀ (es : List Eff) (k i : Nat) (m m' : Mid) (e : Eff), es[i]? = some e → q (k + i) = true → t ∈ wT e → (∀ j e', i < j → es[j]? = some e' → t ∈ wT e' → q (k + j) = false) → look t (runP q k es m).fr = look t (e.apply m').fr
  | [], _, i, _, _, e, h, _, _, _ => by simp at h
  | e' :: es, k, 0, m, m', e, h, hq, ht, hj => by
    simp at h; subst h
    simp only [Nat.add_zero] at hq
    simp only [runP, hq, cond_true]
    rw [runP_fr (q := fun _ => false) es (k + 1) (e'.apply m) (e'.apply m) rfl (fun j e2 h2 h3 => by have := hj (j + 1) e2 (by omega) (by simpa using h2) h3; rw [show k + 1 + j = k + (j + 1) by omega]; exact this), runP_none]
    unfold Eff.apply
    cases hd : e'.dst with
    | none => simp [wT, hd] at ht
    | some d => simp only [wT, hd, Option.toList_some, List.mem_singleton] at ht; subst ht; simp [look_cons]
  | e' :: es, k, i + 1, m, m', e, h, hq, ht, hj => by
    simp only [runP]
    exact runP_last es (k + 1) i _ m' e (by simpa using h) (by rw [show k + 1 + i = k + (i + 1) by omega]; exact hq) ht (fun j e2 h1 h2 h3 => by have := hj (j + 1) e2 (by omega) (by simpa using h2) h3; rw [show k + 1 + j = k + (j + 1) by omega]; exact this)
theorem runP_lastH {q : Nat → Bool} {t : Nat} : ∀ (es : List Eff) (k i : Nat) (m m' : Mid) (e : Eff), es[i]? = some e → q (k + i) = true → t ∈ wH e → (∀ j e', i < j → es[j]? = some e' → t ∈ wH e' → q (k + j) = false) → look t (runP q k es m).hp = look t (e.apply m').hp
  | [], _, i, _, _, e, h, _, _, _ => by simp at h
  | e' :: es, k, 0, m, m', e, h, hq, ht, hj => by
    simp at h; subst h
    simp only [Nat.add_zero] at hq
    simp only [runP, hq, cond_true]
    rw [runP_hp (q := fun _ => false) es (k + 1) (e'.apply m) (e'.apply m) rfl (fun j e2 h2 h3 => by have := hj (j + 1) e2 (by omega) (by simpa using h2) h3; rw [show k + 1 + j = k + (j + 1) by omega]; exact this), runP_none]
    exact look_append_in ht
  | e' :: es, k, i + 1, m, m', e, h, hq, ht, hj => by
    simp only [runP]
    exact runP_lastH es (k + 1) i _ m' e (by simpa using h) (by rw [show k + 1 + i = k + (i + 1) by omega]; exact hq) ht (fun j e2 h1 h2 h3 => by have := hj (j + 1) e2 (by omega) (by simpa using h2) h3; rw [show k + 1 + j = k + (j + 1) by omega]; exact this)
theorem runP_freeSub {q : Nat → Bool} {t : Nat} : ∀ (es : List Eff) (k : Nat) (m : Mid), t ∈ (runP q k es m).free → t ∈ m.free ∧ ∀ j e, es[j]? = some e → q (k + j) = true → t ∉ e.names
  | [], _, _, h => ⟨h, by simp⟩
  | e' :: es, k, m, h => by
    simp only [runP] at h
    obtain ⟨h1, h2⟩ := runP_freeSub es (k + 1) _ h
    have h3 : t ∈ m.free ∧ (q k = true → t ∉ e'.names) := by
      cases hq : q k with
      | false => rw [hq] at h1; exact ⟨h1, by simp⟩
      | true =>
        rw [hq] at h1
        simp only [cond_true, mem_apply_free] at h1
        exact ⟨h1.1, fun _ => h1.2⟩
    refine ⟨h3.1, fun j e hj hqj => ?_⟩
    cases j with
    | zero => simp at hj; subst hj; exact h3.2 (by simpa using hqj)
    | succ j => exact h2 j e (by simpa using hj) (by rw [show k + 1 + j = k + (j + 1) by omega]; exact hqj)

section
variable {ro : Option Nat} {P : Program} {c : Cx G} {Q : Exit → Act → World → Prop} {s s' : St}

/-- A state that says no more. -/
theorem imp_less (hn : s'.n = s.n) (hys : s'.ys = s.ys) (hkt : s'.kt = s.kt) (hnext : s'.next = s.next) (hfr : ∀ t x, look t s'.fr = some x → look t s.fr = some x) (hhp : ∀ t x, look t s'.hp = some x → look t s.hp = some x) (hfree : ∀ k, k ∈ s'.free → k ∈ s.free) : Imp c s s' := by
  rintro a w ⟨O, θ, h⟩
  exact ⟨O, θ, h.size.trans hn.symm, h.df, fun t x hx => h.fr t x (hfr t x hx), fun id b hb => h.hp id b (hhp id b hb), fun i j bi bj vi vj g hi hj => h.inj i j bi bj vi vj g (hhp i bi hi) (hhp j bj hj),
    fun id v hv => ⟨by rw [hnext]; exact (h.dom id v hv).1, fun hm => (h.dom id v hv).2 (hfree id hm)⟩, fun k hk => by rw [hnext]; exact h.flt k (hfree k hk), h.one, h.olt, h.ext, h.xo, h.xlt, h.llt, h.marks, h.oc, by rw [hkt]; exact h.kp, by
      rw [hys]
      refine c.Jst h.jn ⟨rfl, rfl, rfl, Nat.le_refl _, fun _ _ _ => rfl, fun g h => .inl h, fun g h _ => h, h.olt, fun g hI => .inl ?_⟩
      rcases hI with hI | ⟨id, b, v, h1, h2, h3⟩ | hI
      · exact .inl hI
      · exact .inr (.inl ⟨id, b, v, hhp id b h1, h2, h3⟩)
      · exact .inr (.inr hI)⟩

theorem wpIn_facts {all : List Oper} {n next ys : Nat} {kt : List Nat} {df : List Deferred} : ∀ {l : List Oper} {es : List Eff}, OpFacts ro P c all n df next ys kt l es → l.length = es.length ∧ ∀ (i : Nat) (o : Oper) (e : Eff), l[i]? = some o → es[i]? = some e → ∀ m : Mid, Has e m → StepOk ro P c all o (m.st n df next ys kt) ((e.apply m).st n df next ys kt)
  | [], [], _ => by simp
  | o :: os, e :: es, h => by
    obtain ⟨h1, h2⟩ := wpIn_facts h.2
    refine ⟨by simp [h1], fun i o' e' ho he m hm => ?_⟩
    cases i with
    | zero => simp at ho he; subst ho; subst he; exact h.1 m hm
    | succ i => exact h2 i o' e' (by simpa using ho) (by simpa using he) m hm
  | [], _ :: _, h => by simp [OpFacts] at h
  | _ :: _, [], h => by simp [OpFacts] at h

theorem mem_ready {ops : Array Oper} {listed : Array Bool} {i : Nat} : i ∈ Region.ready .any ops listed ↔ i < ops.size ∧ listed.getD i true = false ∧ ∃ o, ops[i]? = some o ∧ ∀ e ∈ o.after, Region.binds .any e = true → listed.getD e.on false = true := by
  unfold Region.ready
  rw [List.mem_filter, List.mem_range]
  constructor
  · rintro ⟨h1, h2⟩
    simp only [Bool.and_eq_true, Bool.not_eq_true'] at h2
    refine ⟨h1, h2.1, ops[i], by simp [h1], fun e he hb => ?_⟩
    have h3 := h2.2
    rw [show ops[i]? = some ops[i] by simp [h1]] at h3
    simp only [Option.map_some, Option.getD_some] at h3
    have := Array.all_eq_true_iff_forall_mem.1 h3 e he
    simpa [hb] using this
  · rintro ⟨h1, h2, o, ho, h3⟩
    refine ⟨h1, ?_⟩
    simp only [h2, Bool.not_false, Bool.true_and, ho, Option.map_some, Option.getD_some]
    refine Array.all_eq_true_iff_forall_mem.2 fun e he => ?_
    cases hb : Region.binds .any e with
    | false => simp
    | true => simpa using h3 e he hb

/-- **A region that draws its order**, walked in the text's order. -/
theorem aw_drawn {id n next ys : Nat} {kt : List Nat} {df : List Deferred} {l : List Oper} (es : List Eff) (m0 : Mid) (hm : P.follows .mixedOrders = true) (hs0 : s = m0.st n df next ys kt) (hF : OpFacts ro P c l n df next ys kt l es) (hT : TextOk es m0) (hB : orderB l es = true)
    (h : Post c Q .normal ((runP (fun _ => true) 0 es m0).st n df next ys kt)) : AW ro P c (.region id l.toArray true) Q s := by
  subst hs0
  obtain ⟨hlen, hfact⟩ := wpIn_facts hF
  obtain ⟨hEdge, hClash, hNames⟩ := orderB_spec hB
  -- whoever waits for one that is listed ..
  have key : ∀ (fuel : Nat) (listed : Array Bool) (a : Act) (w : World), listed.size = l.length → (∀ j o e, l[j]? = some o → e ∈ o.after → Region.binds .any e = true → listed.getD j false = true → listed.getD e.on false = true) →
      ((List.range l.length).filter fun i => !listed.getD i true).length ≤ fuel → Sim c ((runP (fun i => listed.getD i false) 0 es m0).st n df next ys kt) a w → wpAnyIn (FF ro) 0 P .any l.toArray Q fuel listed a w := by
    have getD_tf : ∀ (listed : Array Bool) (i : Nat), i < listed.size → listed.getD i true = listed.getD i false := fun listed i hi => by simp [hi]
    have down : ∀ (listed : Array Bool), (∀ j o e, l[j]? = some o → e ∈ o.after → Region.binds .any e = true → listed.getD j false = true → listed.getD e.on false = true) → ∀ i j, Anc l i j → listed.getD j false = true → listed.getD i false = true := by
      intro listed hd i j ha
      induction ha with
      | one j o e ho he hb hi => intro hj; rw [← hi]; exact hd j o e ho he hb hj
      | more j o e ho he hb _ ih => intro hj; exact ih (hd j o e ho he hb hj)
    have finish : ∀ (listed : Array Bool) (a : Act) (w : World), listed.size = l.length → Region.ready .any l.toArray listed = [] → Sim c ((runP (fun i => listed.getD i false) 0 es m0).st n df next ys kt) a w → Q .normal a w := by
      intro listed a w hsz hr hs
      have all : ∀ i, i < l.length → listed.getD i false = true := by
        intro i
        induction i using Nat.strongRecOn with
        | _ i ih =>
          intro hi
          cases hb : listed.getD i false with
          | true => rfl
          | false =>
            exfalso
            have hmem : i ∈ Region.ready .any l.toArray listed := by
              refine mem_ready.2 ⟨by simpa using hi, by rw [getD_tf listed i (by omega)]; exact hb, l[i], by simp [hi], fun e he hbd => ?_⟩
              have hlt := hEdge i l[i] (by simp [hi]) e.on (mem_edgesOf.2 ⟨e, he, hbd, rfl⟩)
              exact ih e.on hlt (by omega)
            rw [hr] at hmem; cases hmem
      refine h a w ?_
      rw [← runP_congr (p := fun i => listed.getD i false) es 0 m0 (fun j hj => by rw [Nat.zero_add]; exact all j (by omega))]
      exact hs
    intro fuel
    induction fuel with
    | zero =>
      intro listed a w hsz hd hc hs
      have hr : Region.ready .any l.toArray listed = [] := by
        rw [List.eq_nil_iff_forall_not_mem]
        intro i hi
        obtain ⟨h1, h2, _⟩ := mem_ready.1 hi
        have : i ∈ (List.range l.length).filter fun i => !listed.getD i true := List.mem_filter.2 ⟨by simpa using h1, by simp [h2]⟩
        have := List.length_pos_of_mem this
        omega
      exact ⟨hr, finish listed a w hsz hr hs⟩
    | succ fuel ih =>
      intro listed a w hsz hd hc hs
      refine ⟨fun hr => finish listed a w hsz hr hs, fun i hi => ?_⟩
      obtain ⟨h1, h2, o, ho, hafter⟩ := mem_ready.1 hi
      have hil : i < l.length := by simpa using h1
      have ho' : l[i]? = some o := by simpa using ho
      have hiF : listed.getD i false = false := by rw [← getD_tf listed i (by omega)]; exact h2
      obtain ⟨e, he⟩ : ∃ e, es[i]? = some e := ⟨es[i]'(by omega), List.getElem?_eq_getElem (by omega)⟩
      -- all that it waits for is listed
      have hanc : ∀ j, Anc l j i → listed.getD j false = true := by
        intro j hj
        cases hj with
        | one _ o2 e2 ho2 he2 hb2 hi2 =>
          rw [ho'] at ho2; cases ho2
          rw [← hi2]; exact hafter e2 he2 hb2
        | more _ o2 e2 ho2 he2 hb2 h3 =>
          rw [ho'] at ho2; cases ho2
          exact down listed hd j e2.on h3 (hafter e2 he2 hb2)
      -- whoever clashes with it is listed just if it stands ahead of it
      have agree : ∀ j ej, es[j]? = some ej → (j ≠ i → clash e ej = true ∧ clash ej e = true) → listed.getD (0 + j) false = Nat.blt (0 + j) (0 + i) := by
        intro j ej hj hcl
        simp only [Nat.zero_add]
        by_cases hji : j = i
        · subst hji; rw [hiF]; simp [Nat.blt_eq, Bool.eq_false_iff]
        · obtain ⟨c1, c2⟩ := hcl hji
          rcases Nat.lt_or_gt_of_ne hji with hlt | hlt
          · rw [hanc j (hClash j i ej e hlt hj he c2)]
            rw [eq_comm]; simpa [Nat.blt_eq] using hlt
          · have hA := hClash i j e ej hlt he hj c1
            have : listed.getD j false = false := by
              cases hb : listed.getD j false with
              | false => rfl
              | true => have := down listed hd i j hA hb; rw [hiF] at this; cases this
            rw [this]; symm; rw [Bool.eq_false_iff]; simp [Nat.blt_eq]; omega
      have clT : ∀ (t : Nat) (a b : Eff), t ∈ wT a → (t ∈ wT b ∨ t ∈ rT b) → clash a b = true ∧ clash b a = true := by
        intro t a b ha hb
        constructor
        · simp only [clash, Bool.or_eq_true, List.any_eq_true]
          exact .inl (.inl (.inl ⟨t, ha, by simpa using hb⟩))
        · rcases hb with hb | hb
          · simp only [clash, Bool.or_eq_true, List.any_eq_true]
            exact .inl (.inl (.inl ⟨t, hb, by simp [ha]⟩))
          · simp only [clash, Bool.or_eq_true, List.any_eq_true]
            exact .inl (.inl (.inr ⟨t, ha, by simpa using hb⟩))
      have clH : ∀ (t : Nat) (a b : Eff), t ∈ wH a → (t ∈ wH b ∨ t ∈ rH b) → clash a b = true ∧ clash b a = true := by
        intro t a b ha hb
        constructor
        · simp only [clash, Bool.or_eq_true, List.any_eq_true]
          exact .inl (.inr ⟨t, ha, by simpa using hb⟩)
        · rcases hb with hb | hb
          · simp only [clash, Bool.or_eq_true, List.any_eq_true]
            exact .inl (.inr ⟨t, hb, by simp [ha]⟩)
          · simp only [clash, Bool.or_eq_true, List.any_eq_true]
            exact .inr ⟨t, ha, by simpa using hb⟩
      have hhas0 := textOk_has es 0 m0 hT i e he
      rw [runP_take] at hhas0
      have hhas : Has e (runP (fun i => listed.getD i false) 0 es m0) := by
        refine ⟨HasT.iff.2 fun t x hx => ?_, HasH.iff.2 fun t x hx => ?_, HasN.iff.2 fun k hk => ?_⟩
        · rw [runP_fr (q := fun j => Nat.blt j (0 + i)) es 0 m0 m0 rfl (fun j ej hj ht => agree j ej hj fun _ => (clT t ej e ht (.inr (List.mem_map.2 ⟨_, hx, rfl⟩))).symm)]
          exact HasT.iff.1 hhas0.1 t x hx
        · rw [runP_hp (q := fun j => Nat.blt j (0 + i)) es 0 m0 m0 rfl (fun j ej hj ht => agree j ej hj fun _ => (clH t ej e ht (.inr (List.mem_map.2 ⟨_, hx, rfl⟩))).symm)]
          exact HasH.iff.1 hhas0.2.1 t x hx
        · rw [runP_free (q := fun j => Nat.blt j (0 + i)) es 0 m0 m0 Iff.rfl (fun j ej hj ht => agree j ej hj fun _ => (clH k ej e (hNames ej (List.mem_of_getElem? hj) k ht) (.inl (hNames e (List.mem_of_getElem? he) k hk))).symm)]
          exact HasN.iff.1 hhas0.2.2 k hk
      have hstep := hfact i o e ho' he _ hhas
      have hset : ∀ j, (listed.setIfInBounds i true).getD j false = if j = i then true else listed.getD j false := by
        intro j
        simp only [Array.getD_eq_getD_getElem?, Array.getElem?_setIfInBounds]
        by_cases hji : j = i
        · subst hji; simp [show j < listed.size by omega]
        · rw [if_neg (fun e => hji e.symm), if_neg hji]
      -- the state behind it
      have himp : Imp c ((e.apply (runP (fun i => listed.getD i false) 0 es m0)).st n df next ys kt) ((runP (fun j => (listed.setIfInBounds i true).getD j false) 0 es m0).st n df next ys kt) := by
        have later : ∀ j ej, i < j → es[j]? = some ej → (clash e ej = true) → (listed.setIfInBounds i true).getD (0 + j) false = false := by
          intro j ej hlt hj c1
          rw [Nat.zero_add, hset, if_neg (by omega)]
          cases hb : listed.getD j false with
          | false => rfl
          | true => have := down listed hd i j (hClash i j e ej hlt he hj c1) hb; rw [hiF] at this; cases this
        refine imp_less rfl rfl rfl rfl (fun t x hx => ?_) (fun t x hx => ?_) (fun k hk => ?_)
        · by_cases ht : t ∈ wT e
          · have := runP_last (q := fun j => (listed.setIfInBounds i true).getD j false) es 0 i m0 (runP (fun i => listed.getD i false) 0 es m0) e he (by simp only [Nat.zero_add]; rw [hset, if_pos rfl]) ht (fun j ej hlt hj htj => later j ej hlt hj (clT t e ej ht (.inl htj)).1)
            exact this.symm.trans hx
          · show look t (e.apply _).fr = some x
            rw [look_apply_fr ht, ← hx]
            refine (runP_fr es 0 m0 m0 rfl fun j ej hj htj => ?_).symm
            rw [hset, if_neg (fun e' => ?_)]
            rw [Nat.zero_add] at e'; subst e'
            rw [he] at hj; cases hj
            exact ht htj
        · by_cases ht : t ∈ wH e
          · have := runP_lastH (q := fun j => (listed.setIfInBounds i true).getD j false) es 0 i m0 (runP (fun i => listed.getD i false) 0 es m0) e he (by simp only [Nat.zero_add]; rw [hset, if_pos rfl]) ht (fun j ej hlt hj htj => later j ej hlt hj (clH t e ej ht (.inl htj)).1)
            exact this.symm.trans hx
          · show look t (e.apply _).hp = some x
            rw [look_apply_hp ht, ← hx]
            refine (runP_hp es 0 m0 m0 rfl fun j ej hj htj => ?_).symm
            rw [hset, if_neg (fun e' => ?_)]
            rw [Nat.zero_add] at e'; subst e'
            rw [he] at hj; cases hj
            exact ht htj
        · show k ∈ (e.apply _).free
          have hk' : k ∈ (runP (fun j => (listed.setIfInBounds i true).getD j false) 0 es m0).free := hk
          obtain ⟨_, hkn⟩ := runP_freeSub es 0 m0 hk'
          have hke : k ∉ e.names := hkn i e he (by simp only [Nat.zero_add]; rw [hset, if_pos rfl])
          rw [free_apply hke]
          refine (runP_free es 0 m0 m0 Iff.rfl fun j ej hj htj => ?_).1 hk'
          rw [hset, if_neg (fun e' => ?_)]
          rw [Nat.zero_add] at e'; subst e'
          rw [he] at hj; cases hj
          exact hke htj
      have hnext : ∀ a' w', Sim c ((e.apply (runP (fun i => listed.getD i false) 0 es m0)).st n df next ys kt) a' w' → wpAnyIn (FF ro) 0 P .any l.toArray Q fuel (listed.setIfInBounds i true) a' w' := by
        intro a' w' hs'
        refine ih _ a' w' (by simpa using hsz) ?_ ?_ (himp a' w' hs')
        · intro j o2 e2 ho2 he2 hb2 hj
          rw [hset] at hj ⊢
          by_cases hon : e2.on = i
          · rw [if_pos hon]
          · rw [if_neg hon]
            by_cases hji : j = i
            · subst hji
              rw [ho'] at ho2; cases ho2
              exact hafter e2 he2 hb2
            · rw [if_neg hji] at hj
              exact hd j o2 e2 ho2 he2 hb2 hj
        · have hsub : ((List.range l.length).filter fun j => !(listed.setIfInBounds i true).getD j true).length + 1 ≤ ((List.range l.length).filter fun j => !listed.getD j true).length := by
            have hg : ∀ j, j < l.length → (listed.setIfInBounds i true).getD j true = if j = i then true else listed.getD j true := by
              intro j hj
              rw [getD_tf _ j (by simp; omega), hset, getD_tf listed j (by omega)]
            have e1 : ((List.range l.length).filter fun j => !(listed.setIfInBounds i true).getD j true) = ((List.range l.length).filter fun j => !listed.getD j true).filter fun j => !(decide (j = i)) := by
              rw [List.filter_filter]
              refine List.filter_congr fun j hj => ?_
              rw [hg j (by simpa using hj)]
              by_cases hji : j = i <;> simp [hji]
            rw [e1]
            have hmem : i ∈ (List.range l.length).filter fun j => !listed.getD j true := List.mem_filter.2 ⟨by simpa using hil, by simp [h2]⟩
            generalize ((List.range l.length).filter fun j => !listed.getD j true) = L at hmem
            have : ∀ L : List Nat, i ∈ L → (L.filter fun j => !(decide (j = i))).length + 1 ≤ L.length := by
              intro L
              induction L with
              | nil => intro h; simp at h
              | cons x L ihL =>
                intro h
                by_cases hxi : x = i
                · subst hxi
                  have := List.length_filter_le (fun j => !(decide (j = x))) L
                  simp; omega
                · rcases List.mem_cons.1 h with h | h
                  · exact absurd h.symm hxi
                  · have := ihL h
                    simp [hxi]; omega
            exact this L hmem
          omega
      obtain ⟨O, θ, hsAt⟩ := hs
      unfold wpOpIn
      rw [ho]
      rcases hstep with ⟨hg, hop⟩ | ⟨hg, hkt, heq⟩
      · simp only [guard_wanted hsAt hg, if_true]
        exact hop a w ⟨O, θ, hsAt⟩ _ _ hnext
      · simp only [guard_wanted hsAt hg, Bool.false_eq_true, if_false]
        refine ⟨fun f _ => trivial, hnext _ _ ?_⟩
        rw [heq]
        exact ⟨O, θ, hsAt.skipU _ (ktB_spec hkt)⟩
  rintro a w ⟨O, θ, hs⟩
  refine wpIn_region_any hm (key l.toArray.size _ a _ (by simp) ?_ ?_ ?_)
  · intro j o e ho he hb hj
    simp [Array.getElem?_replicate] at hj
    split at hj <;> simp at hj
  · have := List.length_filter_le (fun i => !(Array.replicate l.toArray.size false).getD i true) (List.range l.length)
    simpa using this
  · have : runP (fun i => (Array.replicate l.toArray.size false).getD i false) 0 es m0 = m0 := by
      rw [runP_congr (q := fun _ => false) es 0 m0 (fun j _ => by simp [Array.getElem?_replicate]; split <;> rfl), runP_none]
    rw [this]
    exact ⟨O, θ, hs.grownNone ⟨rfl, rfl, rfl, Nat.le_refl _, fun _ _ _ => rfl⟩⟩
end
end Go.Abs

namespace Go.Abs
variable {G : List (Nat × List PV)}
open Go.RowKit

abbrev w_i64 (n : Int) : Int := IntKind.i64.wrap n
abbrev w_u8 (n : Int) : Int := IntKind.u8.wrap n
abbrev w_u64 (n : Int) : Int := IntKind.u64.wrap n

abbrev eI (n : Int) : List PV := [.int .i64 n]
abbrev eI_u8 (n : Int) : List PV := [.int .u8 n]
abbrev eS (s : List UInt8) : List PV := [.str s]
theorem go_stop {R S : Type} {a : Option R} {k : S → Option R} {r : R} (h : Ctl.go (.stop a) k = some r) : a = some r := h
def Ctl.elim {R S β : Type} : Ctl R S → (R → β) → (S → β) → β
  | .stop r, f, _ => f r
  | .next s, _, g => g s
theorem elim_stop {R S β : Type} {v : R} {f : R → β} {g : S → β} {x : β} (h : Ctl.elim (.stop v) f g = x) : f v = x := h
theorem elim_next {R S β : Type} {v : S} {f : R → β} {g : S → β} {x : β} (h : Ctl.elim (.next v) f g = x) : g v = x := h

theorem room_str {n m : Nat} {u : Unit} (h : room ((n : Int) + (m : Int)) 1 = some u) : n + m ≤ 9223372036854775807 := by
  have := room_spec h
  omega
theorem or_one {P : Program} {T : Nat} {b : Bool} (h : oneB P T = true) : (oneB P T || b) = true := by rw [h]; rfl
theorem or_agg {P : Program} {T n : Nat} {a : Bool} (h : aggB P T n = true) : (a || aggB P T n) = true := by rw [h]; cases a <;> rfl
theorem cut_map {α β : Type} (f : α → β) {xs r : List α} {nl : Option Int} {nh : Option Int} (e : cutL xs (nl.getD 0) (nh.getD xs.length) = some r) : cutL (xs.map f) (nl.getD 0) (nh.getD (xs.map f).length) = some (r.map f) := by
  rw [List.length_map]; exact cutL_map f e

/-- A nil slice in the place of an empty one. -/
theorem Fn.nils {P : Program} {f : Nat} {args : List PV} {rs : List Res} (i sz : Nat) (hi : args[i]? = some (.vs sz [])) (h : Fn G P f args rs) : Fn G P f (args.set i .nils) rs := by
  intro w O vs hO hG hsz hrd
  refine h w O vs hO hG (by simpa using hsz) fun j p v hp hv => ?_
  by_cases hij : i = j
  · subst hij
    have hlt : i < args.length := (List.getElem?_eq_some_iff.1 hi).1
    have := hrd i .nils v (by simp [hlt]) hv
    rw [hi] at hp; cases hp
    cases this
    exact .vs0 sz
  · exact hrd j p v (by rw [List.getElem?_set_ne hij]; exact hp) hv

section
variable {ro : Option Nat} {P : Program} {c : Cx G} {s s' : St} {o : Oper} {d : Option Nat}
end
end Go.Abs
namespace Go.Abs
variable {G : List (Nat × List PV)}
structure A2 (α : Type) where
  a0 : α
  a1 : α
  deriving DecidableEq
structure A3 (α : Type) where
  a0 : α
  a1 : α
  a2 : α
  deriving DecidableEq
structure A4 (α : Type) where
  a0 : α
  a1 : α
  a2 : α
  a3 : α
  deriving DecidableEq
abbrev eA4 {α : Type} (e : α → List PV) (x : A4 α) : List PV := e x.a0 ++ (e x.a1 ++ (e x.a2 ++ e x.a3))
end Go.Abs
namespace Go.Abs
variable {G : List (Nat × List PV)}
theorem rnd_back {ro : Option Nat} {P : Program} {c : Cx G} {Q : Exit → Act → World → Prop} {s s' : St} {k : Code} {m : Nat} (h' : RndW ro P c k Q m s') (h : Imp c s s') : RndW ro P c k Q m s := rnd_imp h h'
end Go.Abs
namespace Go.Abs
variable {G : List (Nat × List PV)}
theorem step_on {ro : Option Nat} {P : Program} {c : Cx G} {all : List Oper} {o : Oper} {s s1 s' : St} (hg : Guard all s o true) (ho : OpOk ro P c o s s1) (he : s1 = s') : StepOk ro P c all o s s' := by
  subst he; exact .inl ⟨hg, ho⟩
theorem step_off {ro : Option Nat} {P : Program} {c : Cx G} {all : List Oper} {o : Oper} {s s' : St} (hg : Guard all s o false) (hk : ktB s o.dst = true) (he : s' = s.put o.dst (some (.tup []))) : StepOk ro P c all o s s' := .inr ⟨hg, hk, he⟩
end Go.Abs
namespace Go.Abs
variable {G : List (Nat × List PV)}
section
variable {ro : Option Nat} {P : Program} {c : Cx G} {s s' : St} {o : Oper} {d : Option Nat}
theorem op_eqAgg_eql {T T' : TypeId} {x y : Operand} {ps qs : List PV} {ts : List Tag} {r : Bool} (ho : o.op = .binOp .eql T x y T') (hx : ev s x = some (.pv (.agg ps))) (hy : ev s y = some (.pv (.agg qs)))
    (ht : eqB P T ts = true) (hp : ps.map PV.tag = ts.map some) (hq : qs.map PV.tag = ts.map some) (hr : eqCells ps qs = some r) (hd : o.dst = d) (hn : dOk s d = true) :
    OpOk ro P c o s (s.put d (some (.pv (.bool r)))) := op_eqAgg ho (.inl rfl) hx hy ht hp hq hr hd hn
theorem op_eqAgg_neq {T T' : TypeId} {x y : Operand} {ps qs : List PV} {ts : List Tag} {r : Bool} (ho : o.op = .binOp .neq T x y T') (hx : ev s x = some (.pv (.agg ps))) (hy : ev s y = some (.pv (.agg qs)))
    (ht : eqB P T ts = true) (hp : ps.map PV.tag = ts.map some) (hq : qs.map PV.tag = ts.map some) (hr : eqCells ps qs = some r) (hd : o.dst = d) (hn : dOk s d = true) :
    OpOk ro P c o s (s.put d (some (.pv (.bool (!r))))) := op_eqAgg ho (.inr rfl) hx hy ht hp hq hr hd hn
theorem op_eqBool_eql {T T' : TypeId} {x y : Operand} {b b' : Bool} (ho : o.op = .binOp .eql T x y T') (hx : ev s x = some (.pv (.bool b))) (hy : ev s y = some (.pv (.bool b'))) (ht : P.underlying T = some .bool) (hd : o.dst = d) (hn : dOk s d = true) :
    OpOk ro P c o s (s.put d (some (.pv (.bool (b == b'))))) := op_eqBool ho (.inl rfl) hx hy ht hd hn
end
end Go.Abs
namespace Go.Abs
variable {G : List (Nat × List PV)}
def arrayB (P : Program) (T n e sz : Nat) : Bool := match P.underlying T with
  | some (.array m e') => (m == n && e' == e) && (match P.info? e with | some i => i.size == sz | none => false)
  | _ => false
theorem arrayB_spec {P : Program} {T n e sz : Nat} (h : arrayB P T n e sz = true) : ∃ i, P.underlying T = some (.array n e) ∧ P.info? e = some i ∧ i.size = sz := by
  unfold arrayB at h
  split at h
  · rename_i m e' hu
    simp only [Bool.and_eq_true, beq_iff_eq] at h
    obtain ⟨⟨rfl, rfl⟩, h⟩ := h
    split at h
    · rename_i i hi; exact ⟨i, hu, hi, by simpa using h⟩
    · cases h
  · cases h
section
variable {ro : Option Nat} {P : Program} {c : Cx G} {s s' : St} {o : Oper} {d : Option Nat}
theorem run_arrayAt {T n e sz : Nat} (ht : arrayB P T n e sz = true) {k : IntKind} {m : Nat} (hm : Nat.blt m n = true) (w : World) (b off : Nat) :
    (Instr.indexAt T (.pointer (some ⟨b, off, none⟩)) (.int k (m : Int))).run P w = .ok (.pointer (some ⟨b, off + m * sz, none⟩)) w := by
  obtain ⟨i, h1, h2, h3⟩ := arrayB_spec ht
  have hm' : m < n := by simpa [Nat.blt_eq] using hm
  simp [Instr.indexAt, asIntOf, run_underlying h1, Instr.sureAddr, sizeOf, typeInfo, h2, h3, Addr.add_lit]
  intro h
  omega
theorem op_arr_lp {T n e sz m : Nat} {x y : Operand} {k : IntKind} {id off r : Nat} (ho : o.op = .indexAddr T x y) (hx : ev s x = some (.lp id off)) (hy : ev s y = some (.pv (.int k (m : Int)))) (ht : arrayB P T n e sz = true) (hm : Nat.blt m n = true) (hr : off + m * sz = r) (hd : o.dst = d) (hn : dOk s d = true) :
    OpOk ro P c o s (s.put d (some (.lp id r))) :=
  opOk_value hd hn (by rw [ho]; intro k h; cases h) fun a w O θ hs => by
    have h := ev_ok hs hx
    subst hr
    generalize hv : a.eval x = v at h
    cases h with
    | lp _ _ g h => exact ⟨_, by simp [execOp, ho, hv, ev_int hs hy, run_arrayAt ht hm], .lp _ _ g h⟩
end
end Go.Abs
namespace Go.Abs
variable {G : List (Nat × List PV)}
/-! Lists of a type that holds lists of itself: their reading `g` is `List.map f`, but not by definition. -/
section
variable {α : Type} {f : α → List PV} {g : List α → List (List PV)}
end
section
variable {ro : Option Nat} {P : Program} {c : Cx G} {s s' : St} {o : Oper} {d : Option Nat}
end
end Go.Abs
namespace Go.Abs
variable {G : List (Nat × List PV)}
end Go.Abs
namespace Go.Abs
variable {G : List (Nat × List PV)}
/-- A result taken for something that nobody writes any more. -/
def Res.fz : Res → Res
  | .p x => .p x
  | .own _ sz rows => .p (.vs sz rows)
  | .clo _ _ _ _ _ => .p .nils
def Res.noclo : Res → Bool
  | .clo _ _ _ _ _ => false
  | _ => true
theorem ResOk.fz {w : World} {O : Nat → Prop} {lo : Nat} {r : Res} {v : Value} (hc : r.noclo = true) (h : ResOk w O lo r v) : ResOk w (fun g => O g ∧ g < lo) lo r.fz v := by
  cases r with
  | clo => cases hc
  | p x => exact Rd.mono (w := w) (w' := w) (O := O) (O' := fun g => O g ∧ g < lo) (Nat.le_refl _) (fun b _ hn => ⟨fun h2 => hn h2.1, rfl⟩) h
  | own e sz rows =>
    obtain ⟨⟨us, hown, hrd⟩, _, hg⟩ := h
    have hrd' : RowsRd w (fun g => O g ∧ g < lo) sz rows us := hrd.mono (Nat.le_refl _) (fun b _ hn => ⟨fun h2 => hn h2.1, rfl⟩)
    rcases hown.2 with ⟨rfl, h4⟩ | ⟨g, cap, cur, rfl, _, hgh, hnc, hcm, hcs, ht⟩
    · have : rows = [] := List.eq_nil_of_length_eq_zero h4
      subst this
      exact Rd.vs0 sz
    · have := rd_vs_of_rows hrd' hgh ht (fun h => by have := (hg g rfl).1; omega) hnc hcm
      exact this
theorem Fn.frozen {P : Program} {f : Nat} {args : List PV} {rs : List Res} (h : Fn G P f args rs) (hc : (rs.all Res.noclo) = true := by rfl) : Fn G P f args (rs.map Res.fz) := by
  have hc' : ∀ r ∈ rs, r.noclo = true := List.all_eq_true.1 hc
  intro w O vs hO hG hsz hrd
  refine (h w O vs hO hG hsz hrd).mono ?_
  rintro e w' ⟨v, O', rfl, hg, hOO, hr⟩
  refine ⟨v, fun g => O' g ∧ g < w.heap.size, rfl, hg, fun g hgg => ⟨hOO g hgg, hO g hgg⟩, ?_⟩
  match rs, hc', hr with
  | [r], hc', hr => exact ResOk.fz (hc' r (by simp)) hr
  | [], _, ⟨us, h1, h2, h3⟩ => exact ⟨us, h1, h2, fun i r u hr => by simp at hr⟩
  | r :: r' :: rs, hc', ⟨us, h1, h2, h3⟩ =>
    refine ⟨us, h1, by simpa using h2, fun i x u hx hu => ?_⟩
    have hx' : ((r :: r' :: rs).map Res.fz)[i]? = some x := hx
    rw [List.getElem?_map, Option.map_eq_some_iff] at hx'
    obtain ⟨r0, hr0, rfl⟩ := hx'
    exact ResOk.fz (hc' r0 (List.mem_of_getElem? hr0)) (h3 i r0 u hr0 hu)
end Go.Abs
namespace Go.Abs
variable {G : List (Nat × List PV)}
def A2.l {α : Type} (x : A2 α) : List α := [x.a0, x.a1]
def A3.l {α : Type} (x : A3 α) : List α := [x.a0, x.a1, x.a2]
def A4.l {α : Type} (x : A4 α) : List α := [x.a0, x.a1, x.a2, x.a3]
section
variable {ro : Option Nat} {P : Program} {c : Cx G} {s s' : St} {o : Oper} {d : Option Nat}
end
end Go.Abs
namespace Go.Abs
variable {G : List (Nat × List PV)}
section
variable {ro : Option Nat} {P : Program} {c : Cx G} {s s' : St} {o : Oper} {d : Option Nat}
end
end Go.Abs
namespace Go.Abs
variable {G : List (Nat × List PV)}
end Go.Abs
namespace Go.Abs
variable {G : List (Nat × List PV)}
section
variable {ro : Option Nat} {P : Program} {c : Cx G} {s s' : St} {o : Oper} {d : Option Nat}
theorem op_arr_lpN {T n e sz : Nat} {x y : Operand} {k : IntKind} {i : Int} {id off : Nat} {α : Type} {l : List α} {z : α} (ho : o.op = .indexAddr T x y) (hx : ev s x = some (.lp id off)) (hy : ev s y = some (.pv (.int k i))) (ht : arrayB P T n e sz = true) (hl : l.length = n) (hi : idx l i = some z) (hd : o.dst = d) (hn : dOk s d = true) :
    OpOk ro P c o s (s.put d (some (.lp id (off + i.toNat * sz)))) :=
  opOk_value hd hn (by rw [ho]; intro k h; cases h) fun a w O θ hs => by
    have h := ev_ok hs hx
    obtain ⟨i0, i1, i2⟩ := idx_spec hi
    have hm : i = ((i.toNat : Nat) : Int) := by omega
    have hlt : i.toNat < n := by omega
    generalize hv : a.eval x = v at h
    cases h with
    | lp _ _ g h =>
      have hrun := run_arrayAt (P := P) ht (k := k) (m := i.toNat) (by simpa [Nat.blt_eq] using hlt) w g off
      rw [← hm] at hrun
      exact ⟨_, by simp [execOp, ho, hv, ev_int hs hy, hrun], .lp _ _ g h⟩
end
end Go.Abs
namespace Go.Abs
variable {G : List (Nat × List PV)}
end Go.Abs

/- Plain helpers: indices, ranges, rounds. -/
namespace Go.Abs
variable {G : List (Nat × List PV)}
theorem w64 {n : Int} (h1 : -9223372036854775808 ≤ n) (h2 : n ≤ 9223372036854775807) : w_i64 n = n := by
  show IntKind.i64.wrap n = n
  unfold IntKind.wrap
  simp only [IntKind.bits, IntKind.signed]
  first | omega | (simp; omega) | skip
theorem idx_nat {α : Type} {l : List α} {k : Nat} : idx l (k : Int) = l[k]? := by simp [idx]
theorem idx_lt {α : Type} {l : List α} {k : Nat} (h : k < l.length) : idx l (k : Int) = some l[k] := by rw [idx_nat]; exact List.getElem?_eq_getElem h
theorem w64_succ {k m : Nat} (h : k < m) (hm : m ≤ 9223372036854775807) : w_i64 ((k : Int) + 1) = ((k + 1 : Nat) : Int) := by rw [w64 (by omega) (by omega)]; omega
theorem room_ok {n b : Int} (h : n * b ≤ 140737488355328) : room n b = some () := by unfold room; rw [if_pos h]
end Go.Abs
namespace Go.Abs
variable {G : List (Nat × List PV)}
/-- As `Option.bind_some`; simp takes it for an equation that is to be rewritten by. -/
theorem obs {α β : Type} (a : α) (f : α → Option β) : Option.bind (some a) f = f a := by rw [Option.bind_some]
end Go.Abs

/- Plain loops over lists. -/
namespace Go.Abs
variable {G : List (Nat × List PV)}
variable {α β S R T : Type}
/-- A search for the first of a kind: its place. -/
theorem findL_at {l : List α} (hp : l.length ≤ 9223372036854775807) {L : Nat → Int → Option (Ctl Int Unit)} {b : α → Bool}
    (hL : ∀ (n : Nat) (x : Int), L (n + 1) x = if decide (x < (l.length : Int)) = true then Option.bind (idx l x) fun y => if b y = true then some (.stop x) else L n (w_i64 (x + 1)) else some (.next ())) :
    ∀ (n k : Nat), n + k = l.length + 1 → k ≤ l.length → L n (k : Int) = some (match (l.drop k).findIdx? b with | some i => .stop ((k + i : Nat) : Int) | none => .next ())
  | 0, k, h, hk => by omega
  | n + 1, k, h, hk => by
    rw [hL]
    by_cases hlt : k < l.length
    · rw [if_pos (by simpa using hlt), idx_lt hlt, List.drop_eq_getElem_cons hlt, obs, List.findIdx?_cons]
      cases hb : b l[k] with
      | true => simp
      | false =>
        rw [if_neg (by simp), w64_succ hlt (by omega), findL_at hp hL n (k + 1) (by omega) (by omega)]
        cases (l.drop (k + 1)).findIdx? b with
        | none => simp
        | some i => simp; omega
    · rw [if_neg (by simpa using hlt), List.drop_eq_nil_of_le (by omega)]
      rfl
theorem findL (L : Nat → Int → Option (Ctl Int Unit)) {l : List α} (hp : l.length ≤ 9223372036854775807) {b : α → Bool}
    (hL : ∀ (n : Nat) (x : Int), L (n + 1) x = if decide (x < (l.length : Int)) = true then Option.bind (idx l x) fun y => if b y = true then some (.stop x) else L n (w_i64 (x + 1)) else some (.next ())) :
    L ((((l.length : Int) : Int) - (0)).toNat + 1) 0 = some (match l.findIdx? b with | some i => .stop (i : Int) | none => .next ()) := by
  rw [show (((l.length : Int) : Int) - (0)).toNat + 1 = l.length + 1 by omega]
  have := findL_at hp hL (l.length + 1) 0 (by omega) (by omega)
  rw [show ((0 : Nat) : Int) = 0 from rfl] at this
  rw [this, List.drop_zero]
  cases l.findIdx? b with
  | none => rfl
  | some i => simp
/-- .. as an answer: is there one? -/
theorem find_any {l : List α} {b : α → Bool} : (Ctl.elim (match l.findIdx? b with | some i => Ctl.stop (i : Int) | none => .next ()) (fun v => some v) fun _ => some (-1 : Int)) = some (match l.findIdx? b with | some i => (i : Int) | none => -1) := by
  cases l.findIdx? b <;> rfl
end Go.Abs

/- A range over a function: the iterator's contract; the caller's rule. -/
namespace Go.Abs
variable {G : List (Nat × List PV)}
open Go.RowKit

/-- What a round leaves, seen by the iterator: `I`, the iterator's own, is as it was, and so is all that nobody may write. -/
structure Rel (O I : Nat → Prop) (w : World) (O' : Nat → Prop) (w' : World) : Prop where
  os : w'.os = w.os
  tape : w'.tape = w.tape
  output : w'.output = w.output
  size : w.heap.size ≤ w'.heap.size
  block : ∀ b, b < w.heap.size → (¬ O b ∨ I b) → w'.heap[b]? = w.heap[b]?
  o1 : ∀ g, O' g → O g ∨ w.heap.size ≤ g
  o2 : ∀ g, O g → I g → O' g
  olt : ∀ g, O' g → g < w'.heap.size

/-- Calls of yield number `l`, up to the one at which the caller leaves (`sp`): the caller takes the rows one by one. -/
def YieldOk (P : Program) (l : Nat) (m : Nat) (rows : List (List PV)) (sp : Nat) (J : Nat → (Nat → Prop) → (Nat → Prop) → World → Prop) : Prop :=
  ∀ (k : Nat) (row : List PV) (W : World) (O I : Nat → Prop) (us : Array Value), J k O I W → rows[k]? = some row → k ≤ sp → row.length = m → us.size = m →
    (∀ (i : Nat) (p : PV) (u : Value), row[i]? = some p → us[i]? = some u → Rd W O p u) → (∀ g, O g → g < W.heap.size) → (∀ g, I g → O g) →
    ∃ fn tmps assign body, (Instr.yield l us).run P W = .ok (.round l fn tmps assign body) W ∧
      RoundIn (FF none) 0 P l fn tmps assign body W fun e W' => ∃ O', e = .returned (.bool (!(k == sp))) ∧ J (k + 1) O' I W' ∧ Rel O I W O' W'

/-- What is known in the context of an iterator. -/
structure ItCx (P : Program) (l m : Nat) (rows : List (List PV)) (sp : Nat) (c : Cx G) : Prop where
  y : YieldOk P l m rows sp c.J
  xk : ∀ g, c.X g → c.K g

section
variable {ro : Option Nat} {P : Program} {c : Cx G} {s s' : St} {o : Oper} {d : Option Nat}

/-! ### The iterator's own walk -/
end
end Go.Abs

/- A range over a function: the caller's rule. -/
namespace Go.Abs
variable {G : List (Nat × List PV)}
open Go.RowKit

section
variable {X Q E : Type}
end

/-- The slots of a round. -/
def psFr : List Nat → List PV → List (Nat × Option AV)
  | t :: ts, p :: ps => (t, some (.pv p)) :: psFr ts ps
  | _, _ => []
/-- A state in a round: yield's arguments in their slots; the slots `kt` are kept. -/
def St.round (s : St) (ps : List Nat) (row : List PV) (kt : List Nat) : St := { s with fr := psFr ps row ++ s.fr, kt := kt }
/-- Slots that stand for something are among `kt`. -/
def inKt (kt : List Nat) : List (Nat × Option AV) → Bool
  | [] => true
  | (t, some _) :: l => kt.elem t && inKt kt l
  | (_, none) :: l => inKt kt l
/-- The states of a loop: all of the same build. -/
structure LpSt (s : St) (kk : List Nat) (s1 : St) : Prop where
  n : s1.n = s.n
  kt : s1.kt = s.kt
  free : s1.free = []
  fr : inKt kk s1.fr = true

/-- The round's context knows what the caller's does. -/
structure CxR (c c' : Cx G) : Prop where
  J : c'.J = c.J
  xk : (∀ g, c.X g → c.K g) → ∀ g, c'.X g → c'.K g

/-- State `s1` says no more than `s`. -/
def LessF (fr : List (Nat × Option AV)) : List (Nat × Option AV) → Prop
  | [] => True
  | (_, none) :: l => LessF fr l
  | (t, some x) :: l => look t fr = some x ∧ LessF fr l
theorem LessF.spec {fr : List (Nat × Option AV)} : ∀ {l : List (Nat × Option AV)}, LessF fr l → ∀ t x, (t, some x) ∈ l → look t fr = some x
  | (_, none) :: l, h, t, x, hm => by
    rcases List.mem_cons.1 hm with h1 | h1
    · cases h1
    · exact LessF.spec (l := l) h t x h1
  | (t', some x') :: l, h, t, x, hm => by
    rcases List.mem_cons.1 hm with h1 | h1
    · cases h1; exact h.1
    · exact LessF.spec (l := l) h.2 t x h1
def neB : Option Nat → Nat → Bool
  | none, _ => true
  | some k, id => !Nat.beq k id
def LessH (hp : List (Nat × Option Blk)) (nx : Nat) (kk : Option Nat) : List (Nat × Option Blk) → Prop
  | [] => True
  | (_, none) :: l => LessH hp nx kk l
  | (id, some b) :: l => (look id hp = some b ∧ Nat.blt id nx = true ∧ neB kk id = true) ∧ LessH hp nx kk l
theorem LessH.spec {hp : List (Nat × Option Blk)} {nx : Nat} {kk : Option Nat} : ∀ {l : List (Nat × Option Blk)}, LessH hp nx kk l → ∀ t x, (t, some x) ∈ l → look t hp = some x ∧ t < nx ∧ kk ≠ some t
  | (_, none) :: l, h, t, x, hm => by
    rcases List.mem_cons.1 hm with h1 | h1
    · cases h1
    · exact LessH.spec (l := l) h t x h1
  | (t', some x') :: l, h, t, x, hm => by
    rcases List.mem_cons.1 hm with h1 | h1
    · cases h1
      obtain ⟨h1, h2, h3⟩ := h.1
      refine ⟨h1, by simpa [Nat.blt_eq] using h2, ?_⟩
      rintro rfl
      simp [neB] at h3
    · exact LessH.spec (l := l) h.2 t x h1

/-- What is known while the iterator runs. -/
structure RSt (c : Cx G) (s1 : St) (O I : Nat → Prop) (θ : Nat → Option Value) (a1 : Act) (w : World) (l : Nat) (rec : Loop) : Prop where
  sim : SimAt c s1 O θ a1 w
  jn : c.J s1.ys O (fun g => Mine c s1 θ a1.defers g ∨ I g ∨ g = l) w
  apart : ∀ g, HpB s1 θ g ∨ DfB a1.defers g ∨ g = l → ¬ I g
  ix : ∀ g, I g → ¬ c.X g
  ol : O l
  hl : w.heap[l]? = some (.loop rec)
  lw : c.w0.heap.size ≤ l

theorem heap_lt {w : World} {g : Nat} {o : Obj} (h : w.heap[g]? = some o) : g < w.heap.size := by
  rcases Nat.lt_or_ge g w.heap.size with h1 | h1
  · exact h1
  · rw [Array.getElem?_eq_none h1] at h; cases h

section
variable {c : Cx G} {s1 : St} {O I : Nat → Prop} {θ : Nat → Option Value} {a1 : Act} {w : World} {l : Nat} {rec : Loop}

theorem RSt.hp_lt (h : RSt c s1 O I θ a1 w l rec) {g : Nat} (hg : HpB s1 θ g ∨ DfB a1.defers g ∨ g = l) : g < w.heap.size ∧ O g := by
  rcases hg with ⟨id, b, v, h1, h2, h3⟩ | ⟨d, h1, h2⟩ | rfl
  · obtain ⟨v', hv', _, hgv⟩ := h.sim.hp id b h1
    rw [h2] at hv'; cases hv'
    exact ⟨(hgv g h3).2.1, (hgv g h3).1⟩
  · obtain ⟨D, rfl, hD, hOD, _⟩ := h.sim.marks d h1
    cases h2; exact ⟨heap_lt hD, hOD⟩
  · exact ⟨heap_lt h.hl, h.ol⟩

/-- The iterator's own steps do not touch it. -/
theorem RSt.stp (h : RSt c s1 O I θ a1 w l rec) {O' I' : Nat → Prop} {w' : World} (hs : Stp O I w O' I' w') : RSt c s1 O' I' θ a1 w' l rec := by
  have hO : ∀ b, b < w.heap.size → ¬ O b → ¬ O' b ∧ w'.heap[b]? = w.heap[b]? := fun b hb hn => ⟨fun h2 => by rcases hs.o1 b h2 with h3 | h3; exact hn h3; omega, hs.block b hb (.inr hn)⟩
  have hkeep : ∀ g, HpB s1 θ g ∨ DfB a1.defers g ∨ g = l → w'.heap[g]? = w.heap[g]? ∧ O' g := fun g hg => ⟨hs.block g (h.hp_lt hg).1 (.inl (h.apart g hg)), hs.o2 g (h.hp_lt hg).2 (h.apart g hg)⟩
  have hj2 : c.J s1.ys O' (fun g => Mine c s1 θ a1.defers g ∨ I' g ∨ g = l) w' := by
    refine c.Jst h.jn ⟨hs.os, hs.tape, hs.output, hs.size, fun b hb hn => hs.block b hb ?_, hs.o1, fun g h1 h2 => hs.o2 g h1 (fun h3 => h2 (.inr (.inl h3))), hs.olt, fun g hg => ?_⟩
    · rcases hn with hn | hn
      · exact .inl fun h3 => hn (.inr (.inl h3))
      · exact .inr hn
    · rcases hg with hg | hg | hg
      · exact .inl (.inl hg)
      · rcases hs.i1 g hg with h3 | h3
        · exact .inl (.inr (.inl h3))
        · exact .inr h3
      · exact .inl (.inr (.inr hg))
  have hsim := h.sim
  refine ⟨⟨hsim.size, hsim.df, fun t x hx => (hsim.fr t x hx).mono hs.size hO (fun _ _ e => e), fun id b hb => ?_, hsim.inj, hsim.dom, hsim.flt, hsim.one, hs.olt, ⟨hs.os.trans hsim.ext.os, hs.tape.trans hsim.ext.tape, hs.output.trans hsim.ext.output, Nat.le_trans hsim.ext.size hs.size, fun b hb hL => ?_⟩, fun g hg => hs.o2 g (hsim.xo g hg) (fun hI => h.ix g hI hg), hsim.xlt, hsim.llt, fun d hd => ?_, fun g hg hlt => ?_, hsim.kp, ?_⟩, hj2, ?_, ?_, (hkeep l (.inr (.inr rfl))).2, ?_, h.lw⟩
  · obtain ⟨v, hv, hbo, hgv⟩ := hsim.hp id b hb
    refine ⟨v, hv, hbo.mono hs.size hO (fun _ _ e => e) (fun g hgg => (hkeep g (.inl ⟨id, b, v, hb, hv, hgg⟩)).1), fun g hgg => ?_⟩
    exact ⟨(hkeep g (.inl ⟨id, b, v, hb, hv, hgg⟩)).2, Nat.lt_of_lt_of_le (hgv g hgg).2.1 hs.size, (hgv g hgg).2.2⟩
  · rw [← hsim.ext.block b hb hL]
    refine hs.block b (Nat.lt_of_lt_of_le hb hsim.ext.size) ?_
    by_cases hOb : O b
    · rcases hsim.oc b hOb hb with hX | hL2
      · exact .inl fun hI => h.ix b hI hX
      · exact absurd hL2 hL
    · exact .inr hOb
  · obtain ⟨D, rfl, hD, hOD, h0⟩ := hsim.marks d hd
    have := hkeep D (.inr (.inl ⟨_, hd, rfl⟩))
    exact ⟨D, rfl, by rw [this.1]; exact hD, this.2, h0⟩
  · rcases hs.o1 g hg with h1 | h1
    · exact hsim.oc g h1 hlt
    · have := hsim.ext.size; omega
  · exact c.Jst hj2 ⟨rfl, rfl, rfl, Nat.le_refl _, fun _ _ _ => rfl, fun g h => .inl h, fun g h _ => h, hs.olt, fun g hg => .inl (.inl hg)⟩
  · intro g hg hI
    rcases hs.i1 g hI with h1 | h1
    · exact h.apart g hg h1
    · have := (h.hp_lt hg).1; omega
  · intro g hI hX
    rcases hs.i1 g hI with h1 | h1
    · exact h.ix g h1 hX
    · have := hsim.xlt g hX; have := hsim.ext.size; omega
  · rw [(hkeep l (.inr (.inr rfl))).1]; exact h.hl

end
end Go.Abs

/- A range over a function: one round; the statement. -/
namespace Go.Abs
variable {G : List (Nat × List PV)}
open Go.RowKit

section
variable {X Q E : Type} {P : Program} {c : Cx G}

theorem SimAt.turned {c : Cx G} {s : St} {O : Nat → Prop} {θ : Nat → Option Value} {a : Act} {w : World} {l : Nat} {rec rec' : Loop} (hs : SimAt c s O θ a w) (hl : w.heap[l]? = some (.loop rec)) (hX : c.X l) (hK : c.K l) :
    SimAt { c with w0 := c.w0.putObj l (.loop rec') } s O θ a (w.putObj l (.loop rec')) := by
  have hol := hs.xo l hX
  have hlt := hs.xlt l hX
  have hO : ∀ b, b < w.heap.size → ¬ O b → ¬ O b ∧ (w.putObj l (.loop rec')).heap[b]? = w.heap[b]? := fun b hb hn => ⟨hn, World.putObj_heap_other (fun e => hn (e ▸ hol))⟩
  have hsz : w.heap.size ≤ (w.putObj l (.loop rec')).heap.size := by simp
  refine ⟨hs.size, hs.df, fun t x hx => (hs.fr t x hx).mono hsz hO (fun _ _ e => e), fun id b hb => ?_, hs.inj, hs.dom, hs.flt, hs.one, fun g hg => by simpa using hs.olt g hg, ⟨hs.ext.os, hs.ext.tape, hs.ext.output, by simpa using hs.ext.size, fun b hb hL => ?_⟩, hs.xo, fun g hg => by simpa using hs.xlt g hg, fun g hg => by simpa using hs.llt g hg, fun d hd => ?_, fun g hg hlt => hs.oc g hg (by simpa using hlt), hs.kp, ?_⟩
  · obtain ⟨v, hv, hbo, hgv⟩ := hs.hp id b hb
    exact ⟨v, hv, hbo.mono hsz hO (fun _ _ e => e) (fun g hgg => World.putObj_heap_other (fun e => by obtain ⟨_, hh, ho⟩ := hbo.cells hgg; rw [e, hl] at hh; cases hh; cases ho)), fun g hgg => by simpa using hgv g hgg⟩
  · by_cases hbl : b = l
    · subst hbl
      rw [World.putObj_heap_same (heap_lt hl), World.putObj_heap_same hlt]
    · rw [World.putObj_heap_other hbl, World.putObj_heap_other hbl]
      exact hs.ext.block b (by simpa using hb) hL
  · obtain ⟨D, rfl, hD, hOD, h0⟩ := hs.marks d hd
    exact ⟨D, rfl, by rw [World.putObj_heap_other (fun e => by subst e; rw [hl] at hD; cases hD)]; exact hD, hOD, by simpa using h0⟩
  · refine c.Jst hs.jn ⟨rfl, rfl, rfl, hsz, fun b hb hn => World.putObj_heap_other (fun e => ?_), fun g h => .inl h, fun g h _ => h, fun g hg => by simpa using hs.olt g hg, fun g hg => .inl hg⟩
    subst e
    rcases hn with hn | hn
    · exact hn (.inl hK)
    · exact hn hol

end
end Go.Abs
namespace Go.Abs
variable {G : List (Nat × List PV)}
section
variable {P : Program} {c c' : Cx G} {s : St}
theorem ItCx.round {l m sp : Nat} {rows : List (List PV)} (h : ItCx P l m rows sp c) (hc : CxR c c') : ItCx P l m rows sp c' := ⟨by rw [hc.J]; exact h.y, hc.xk h.xk⟩
end
end Go.Abs
namespace Go.Abs
variable {G : List (Nat × List PV)}
/-- Some of the captured boxes are handed on as what they read as. -/
def CapF (id : Nat) (ps : List PV) : List AV → List AV → Prop
  | [], [] => True
  | x :: xs, y :: ys => (x = y ∨ (x = .lp id 0 ∧ y = .pv (.vp ps))) ∧ CapF id ps xs ys
  | _, _ => False
theorem CapF.spec {id : Nat} {ps : List PV} : ∀ {xs ys : List AV}, CapF id ps xs ys → xs.length = ys.length ∧ ∀ (i : Nat) (x y : AV), xs[i]? = some x → ys[i]? = some y → x = y ∨ (x = .lp id 0 ∧ y = .pv (.vp ps))
  | [], [], _ => ⟨rfl, fun i x y h => by simp at h⟩
  | x :: xs, y :: ys, h => by
    obtain ⟨h1, h2⟩ := CapF.spec h.2
    refine ⟨by simp [h1], fun i x' y' hx hy => ?_⟩
    cases i with
    | zero => simp at hx hy; subst hx; subst hy; exact h.1
    | succ i => exact h2 i x' y' (by simpa using hx) (by simpa using hy)
  | [], _ :: _, h | _ :: _, [], h => by simp [CapF] at h
end Go.Abs
namespace Go.Abs
variable {G : List (Nat × List PV)}
end Go.Abs

/- Functions of the library that have no body. -/
namespace Go.Abs
variable {G : List (Nat × List PV)}
open Go.RowKit
/-- Function `f` of a string and a byte gives the number `g`. -/
def ExtSB (P : Program) (f : Nat) (g : List UInt8 → Int → Int) : Prop := ∀ (l : List UInt8) (b : Int) (w : World), (callFunc f #[.string ⟨l.toArray⟩, .int .u8 b]).run P w = .ok (.value (.int .i64 (g l b))) w
def idxB (l : List UInt8) (b : Int) : Int := Lib.indexByte l b.toNat.toUInt8
def cntB (l : List UInt8) (b : Int) : Int := (Lib.countByte l b.toNat.toUInt8 : Nat)
theorem ext_idx {P : Program} {f : Nat} {fn : Func} (hf : P.funcs[f]? = some fn) (hname : (fn.name == "runtime.NumGoroutine") = false) (hb : fn.body.isNone = true) (hn : Extern.findNext fn = none) (he : Extern.find fn = some Extern.BytealgIndexByte.indexByte) : ExtSB P f idxB := by
  intro l b w
  rw [run_callFunc_extern hf hname hb hn he, Lib.run_indexByteString]
  rfl
theorem ext_cnt {P : Program} {f : Nat} {fn : Func} (hf : P.funcs[f]? = some fn) (hname : (fn.name == "runtime.NumGoroutine") = false) (hb : fn.body.isNone = true) (hn : Extern.findNext fn = none) (he : Extern.find fn = some Extern.BytealgCount.count) : ExtSB P f cntB := by
  intro l b w
  rw [run_callFunc_extern hf hname hb hn he, Lib.run_countString]
  rfl
section
variable {ro : Option Nat} {P : Program} {c : Cx G} {s : St} {o : Oper} {d : Option Nat}
theorem op_extSB {fo x y : Operand} {ts : Array TypeId} {f : Nat} {l : List UInt8} {b : Int} {g : List UInt8 → Int → Int} (ho : o.op = .call { callee := .value fo, args := #[x, y], argTypes := ts }) (hf : ev s fo = some (.pv (.fn f []))) (hx : ev s x = some (.pv (.str l))) (hy : ev s y = some (.pv (.int .u8 b))) (hE : ExtSB P f g) (hd : o.dst = d) (hn : dOk s d = true) :
    OpOk ro P c o s (s.put d (some (.pv (.int .i64 (g l b))))) :=
  opOk_value hd hn (by rw [ho]; intro k h; cases h) fun a w O θ hs => by
    have hfv := ev_pv hs hf
    generalize hfa : a.eval fo = fv at hfv
    cases hfv with
    | fn _ _ us hn' hh =>
      have hus : us = #[] := Array.eq_empty_of_size_eq_zero (by simpa using hn')
      subst hus
      refine ⟨.int .i64 (g l b), ?_, .pv _ _ (.int _ _)⟩
      simp [execOp, ho, resolve, Deferred.ofValue, hfa, invoke, ev_str hs hx, ev_int hs hy, hE l b w]
end
end Go.Abs

/- Maps of the call's own, from strings to numbers. -/
namespace Go.Abs
variable {G : List (Nat × List PV)}
open Go.RowKit

section
variable {ro : Option Nat} {P : Program} {c : Cx G} {s : St} {o : Oper} {d : Option Nat}

end
end Go.Abs

/- Arrays: slices of them, elements at whatever place; slices without spare places. -/
namespace Go.Abs
variable {G : List (Nat × List PV)}
open Go.RowKit

/-- The cells of an array, as a slice. -/
theorem rd_arr {w : World} {O : Nat → Prop} {row : List PV} {b off n sz : Nat} {α : Type} {f : α → List PV} {l : List α} (h : Rd w O (.vp row) (.pointer (some ⟨b, off, none⟩))) (hrow : row.take (n * sz) = (l.map f).flatten) (hf : ∀ z, (f z).length = sz) (hl : l.length = n) (hn : n ≤ maxLen) :
    Rd w O (.vs sz (l.map f)) (.slice (some ⟨b, off, none⟩) (l.map f).length n) := by
  obtain ⟨b', off', us, hv, h1, h2, h3, h4, h5⟩ := rd_vp h
  injection hv with hv; injection hv with hv; injection hv with e1 e2; subst e1; subst e2
  have hfl : ((l.map f).flatten).length = n * sz := by
    rw [flatten_len (sz := sz) (fun row hr => by obtain ⟨z, _, rfl⟩ := List.mem_map.1 hr; exact hf z), List.length_map, hl]
  have hge : ∀ k, k < n * sz → k < row.length := by
    intro k hk
    have := congrArg List.length hrow
    rw [hfl, List.length_take] at this
    omega
  have hmem : ∀ p ∈ (l.map f).flatten, p ∈ row := fun p hp => by rw [← hrow] at hp; exact List.mem_of_mem_take hp
  refine .vs sz _ b off n us h1 h2 (by simp [hl]) hn (fun r hr => ?_) (fun r hr x hx => h3 x (hmem x (List.mem_flatten.2 ⟨r, hr, hx⟩))) (fun k hk => ?_) (fun i j r x hi hj => ?_)
  · obtain ⟨z, _, rfl⟩ := List.mem_map.1 hr; exact hf z
  · rw [List.length_map, hl] at hk
    exact h4 k (hge k hk)
  · refine h5 _ x ?_
    have hr : r.length = sz := by obtain ⟨z, _, rfl⟩ := List.mem_map.1 (List.mem_of_getElem? hi); exact hf z
    have hjs : j < sz := by rw [← hr]; exact (List.getElem?_eq_some_iff.1 hj).1
    have hin : i < n := by have := (List.getElem?_eq_some_iff.1 hi).1; rw [List.length_map, hl] at this; exact this
    have e := flatten_get (rows := l.map f) (sz := sz) (fun row hr => by obtain ⟨z, _, rfl⟩ := List.mem_map.1 hr; exact hf z) i j r hi hjs
    rw [hj, ← hrow, List.getElem?_take, if_pos (index_lt hin hjs)] at e
    exact e

section
variable {ro : Option Nat} {P : Program} {c : Cx G} {s s' : St} {o : Oper} {d : Option Nat}

/-- The places of an array's elements. -/
def placesA (n sz : Nat) : List (Nat × Nat) := (List.range n).map fun i => (i * sz, sz)
theorem op_buildArr {T n e sz : Nat} {parts : List (Nat × Operand)} {z : Value} {zs r : List PV} {xs : List (Nat × AV)} (ho : o.op = .build T parts.toArray) (hz : zeroIs P T z) (hzs : czs z.cells.toList zs) (ht : arrayB P T n e sz = true)
    (hx : evs s parts = some xs) (hr : fillPV (placesA n sz) zs xs = some r) (hd : o.dst = d) (hn : dOk s d = true) : OpOk ro P c o s (s.put d (some (.pv (.agg r)))) :=
  opOk_value hd hn (by rw [ho]; intro k h; cases h) fun a w O θ hs => by
    obtain ⟨i, t1, t2, t3⟩ := arrayB_spec ht
    obtain ⟨us', h1, h2⟩ := fill_ok (place := placesA n sz) (pf := fun i => some (i * sz, sz)) (fun i p hp => by
      unfold placesA at hp
      rw [List.getElem?_map, Option.map_eq_some_iff] at hp
      obtain ⟨k, hk, rfl⟩ := hp
      obtain ⟨_, hk2⟩ := List.getElem?_eq_some_iff.1 hk
      simp at hk2; subst hk2; rfl) hs parts xs zs z.cells r hx hr (czs_reads1 hzs)
    refine ⟨.agg us', ?_, .pv _ _ (by have := rd_of_reads1 h2; simpa using this)⟩
    simp [execOp, ho, Instr.build, (zeroIs_spec hz w).1, run_underlying t1, sizeOf, typeInfo, t2, t3, h1]

/-- A store into a box, at a place that is not fixed. -/
theorem op_store_lpV {T n : Nat} {x y : Operand} {id k : Nat} {t : TypeId} {cells cells' : List AV} {v : AV} (ho : o.op = .store T x y) (hx : ev s x = some (.lp id k)) (hy : ev s y = some v) (hc : v.cellish = true)
    (hb : look id s.hp = some (.box t cells)) (hT : (oneB P T || aggB P T n) = true) (hn1 : v.cells.length = (bif oneB P T then 1 else n)) (hfit : k + v.cells.length ≤ cells.length) (hs' : splice cells k v.cells = cells') (hd : o.dst = d) (hk : ktB s d = true) :
    OpOk ro P c o s ((s.setBlk id (some (.box t cells'))).put d none) := by
  subst hs'
  exact op_store_lp ho hx hy hc hb hT hn1 (Nat.ble_eq_true_of_le hfit) hd hk
end

def A2.set {α : Type} (x : A2 α) : Nat → α → A2 α
  | 0, v => ⟨v, x.a1⟩
  | _, v => ⟨x.a0, v⟩
def A3.set {α : Type} (x : A3 α) : Nat → α → A3 α
  | 0, v => ⟨v, x.a1, x.a2⟩
  | 1, v => ⟨x.a0, v, x.a2⟩
  | _, v => ⟨x.a0, x.a1, v⟩
def A4.set {α : Type} (x : A4 α) : Nat → α → A4 α
  | 0, v => ⟨v, x.a1, x.a2, x.a3⟩
  | 1, v => ⟨x.a0, v, x.a2, x.a3⟩
  | 2, v => ⟨x.a0, x.a1, v, x.a3⟩
  | _, v => ⟨x.a0, x.a1, x.a2, v⟩
end Go.Abs

/- Functions as values, with what they compute. -/
namespace Go.Abs
variable {G : List (Nat × List PV)}
open Go.RowKit
/-- A function value of parameters `A` (as `ea` reads them) and a result `R`: its code, what it captures, the plain function that it computes. -/
structure Clo (G : List (Nat × List PV)) (P : Program) (A R : Type) (ea : A → List PV) (er : R → List Res) where
  f : Nat
  c : List PV
  q : A → Option R
  b : callB P f = true
  h : ∀ (a : A) (r : R), q a = some r → Fn G P f (ea a ++ c) (er r)
end Go.Abs
namespace Go.Abs
variable {G : List (Nat × List PV)}
end Go.Abs

/- Functions that are handed boxes of the caller's, to write into them. -/
namespace Go.Abs
variable {G : List (Nat × List PV)}
open Go.RowKit

theorem RdA.mapF {w : World} {O : Nat → Prop} {θ θ' : Nat → Option Value} (ρ : Nat → Nat) (hθ : ∀ i v, θ i = some v → θ' (ρ i) = some v) :
    ∀ {x : AV} {v : Value}, RdA w O θ x v → RdA w O θ' (x.map ρ) v := by
  intro x v h
  induction h with
  | pv p v h => exact .pv _ v h
  | ls id v h => exact .ls _ v (hθ _ _ h)
  | le id sz i off g n cap h => exact .le _ _ _ _ g n cap (hθ _ _ h)
  | lp id off g h => exact .lp _ _ g (hθ _ _ h)
  | ra id m g n cap h h0 => exact .ra _ _ g n cap (hθ _ _ h) h0
  | aw id off n g h => exact .aw _ _ _ g (hθ _ _ h)
  | bp0 id => exact .bp0 _
  | bp1 id g h => exact .bp1 _ g (hθ _ _ h)
  | cs sz rows v h hc => exact .cs _ _ v h hc
  | fn f caps us hn h ih =>
    refine .fn _ _ us (by rw [hn, AV.mapL_length]) fun i c u hc hu => ?_
    rw [AV.mapL_get, Option.map_eq_some_iff] at hc
    obtain ⟨c', hc', rfl⟩ := hc
    exact ih i c' u hc' hu
  | tup xs us hn h ih =>
    refine .tup _ us (by rw [hn, AV.mapL_length]) fun i c u hc hu => ?_
    rw [AV.mapL_get, Option.map_eq_some_iff] at hc
    obtain ⟨c', hc', rfl⟩ := hc
    exact ih i c' u hc' hu
theorem BlkOk.mapF {w : World} {O : Nat → Prop} {θ θ' : Nat → Option Value} (ρ : Nat → Nat) (hθ : ∀ i v, θ i = some v → θ' (ρ i) = some v) {v : Value} {b : Blk} (h : BlkOk w O θ v b) : BlkOk w O θ' v (b.map ρ) := by
  cases b with
  | row e sz rows => exact h
  | box t cells =>
    obtain ⟨g, us, rfl, h1, h2, h3⟩ := h
    refine ⟨g, us, rfl, h1, by rw [AV.mapL_length]; exact h2, fun j c u hc hu => ?_⟩
    rw [AV.mapL_get, Option.map_eq_some_iff] at hc
    obtain ⟨c', hc', rfl⟩ := hc
    exact ⟨(h3 j c' u hc' hu).1.mapF ρ hθ, (h3 j c' u hc' hu).2⟩
  | dict P t n m => exact h

/-- The blocks that a call is handed, to be written. -/
def HpOf (hp : List (Nat × Option Blk)) (θ : Nat → Option Value) (g : Nat) : Prop := ∃ id b v, look id hp = some b ∧ θ id = some v ∧ blkOf v = some g

/-- What names stand for, in a world. -/
structure PreW (w : World) (O : Nat → Prop) (θ : Nat → Option Value) (hp : List (Nat × Option Blk)) (n : Nat) : Prop where
  own : ∀ id b, look id hp = some b → ∃ v, θ id = some v ∧ BlkOk w O θ v b ∧ ∀ g, blkOf v = some g → O g ∧ g < w.heap.size
  inj : ∀ i j bi bj vi vj g, look i hp = some bi → look j hp = some bj → θ i = some vi → θ j = some vj → blkOf vi = some g → blkOf vj = some g → i = j
  dom : ∀ id v, θ id = some v → id < n
  one : ∀ id v, θ id = some v → v.oneCell' = true

/-- What a call's results are. -/
def topW : List AV → AV
  | [x] => x
  | xs => .tup xs

/-- **A function's contract**: called with values that read as `args`, over blocks of the caller's, it returns what reads as `rs`, and leaves these blocks as `hp'` says. -/
def FnW (G : List (Nat × List PV)) (P : Program) (f : FuncId) (args : List AV) (hp : List (Nat × Option Blk)) (n : Nat) (kb : List (Nat × Nat)) (rs : List AV) (hp' : List (Nat × Option Blk)) (n' : Nat) : Prop :=
  ∀ (w : World) (O : Nat → Prop) (θ : Nat → Option Value) (vs : Array Value), (∀ g, O g → g < w.heap.size) → GlobOk G w O → PreW w O θ hp n → vs.size = args.length →
    (∀ (i : Nat) (x : AV) (v : Value), args[i]? = some x → vs[i]? = some v → RdA w O θ x v) →
    Calls P f vs w fun e w' => ∃ v O' θ', e = .returned v ∧ Ext (HpOf hp θ) w w' ∧ (∀ g, O g → ¬ HpOf hp θ g → O' g) ∧ (∀ g, O' g → g < w'.heap.size) ∧
      (∀ g, O' g → g < w.heap.size → O g) ∧
      PreW w' O' θ' hp' n' ∧ (∀ g, HpOf hp' θ' g → HpOf hp θ g ∨ w.heap.size ≤ g) ∧ (∀ ij ∈ kb, θ' ij.2 = θ ij.1) ∧ RdA w' O' θ' (topW rs) v

def FnW.cx (w : World) (O : Nat → Prop) (hp : List (Nat × Option Blk)) (θ : Nat → Option Value) (t0 : Array Value) : Cx G :=
  { w0 := w, L := HpOf hp θ, X := fun g => O g ∧ ¬ HpOf hp θ g, K := fun _ => False, J := fun _ O _ w => GlobOk G w O, Jst := fun h s => h.stp s, JG := fun h => h, KX := fun _ h => h.elim, t0 := t0 }

def FnWPost (P : Program) (fn : Func) (w : World) (O : Nat → Prop) (θ : Nat → Option Value) (hp : List (Nat × Option Blk)) (kb : List (Nat × Nat)) (rs : List AV) (hp' : List (Nat × Option Blk)) (n' : Nat) : Exit → Act → World → Prop :=
  bodyPostM (FF none) 0 P fn fun e w' => ∃ v O' θ', e = .returned v ∧ Ext (HpOf hp θ) w w' ∧ (∀ g, O g → ¬ HpOf hp θ g → O' g) ∧ (∀ g, O' g → g < w'.heap.size) ∧
      (∀ g, O' g → g < w.heap.size → O g) ∧
      PreW w' O' θ' hp' n' ∧ (∀ g, HpOf hp' θ' g → HpOf hp θ g ∨ w.heap.size ≤ g) ∧ (∀ ij ∈ kb, θ' ij.2 = θ ij.1) ∧ RdA w' O' θ' (topW rs) v

def argsFrW : Nat → List AV → List (Nat × Option AV)
  | _, [] => []
  | i, p :: ps => (i, some p) :: argsFrW (i + 1) ps
theorem argsFrW_look : ∀ (ps : List AV) (k t : Nat) (x : AV), look t (argsFrW k ps) = some x → k ≤ t ∧ ps[t - k]? = some x
  | [], k, t, x, h => by simp [argsFrW, look] at h
  | p :: ps, k, t, x, h => by
    simp only [argsFrW, look_cons] at h
    split at h
    · rename_i e; subst e; cases h; exact ⟨Nat.le_refl _, by simp⟩
    · obtain ⟨h2, h3⟩ := argsFrW_look ps (k + 1) t x h
      refine ⟨by omega, ?_⟩
      rw [show t - k = (t - (k + 1)) + 1 by omega, List.getElem?_cons_succ]
      exact h3

/-- What is known at a function's start of what its parameters hold. -/
structure WCx (c : Cx G) (w : World) (O : Nat → Prop) (θ : Nat → Option Value) (hp : List (Nat × Option Blk)) (args : List AV) : Prop where
  cx : c = FnW.cx w O hp θ c.t0
  bo : ∀ g, HpOf hp θ g → O g
  rd : ∀ (i : Nat) (x : AV), args[i]? = some x → RdA w O θ x (c.t0.getD i undef)

/-- A contract, out of the body's walk; the slots `kt` stay as they are. -/
theorem fnW_of_body {P : Program} {f : FuncId} {fn : Func} {code : Code} {n m n' : Nat} {args : List AV} {hp hp' : List (Nat × Option Blk)} {kb : List (Nat × Nat)} {rs : List AV} (kt : List Nat) (hf : P.funcs[f]? = some fn) (hb : fn.body = some code) (hn : fn.ntmps = n) (hl : Nat.ble args.length n = true)
    (h : ∀ (c : Cx G) w O θ, WCx c w O θ hp args → AW none P c code (FnWPost P fn w O θ hp kb rs hp' n') { n := n, fr := argsFrW 0 args, hp := hp, next := m, kt := kt }) : FnW G P f args hp m kb rs hp' n' := by
  intro w O θ vs hO hglob hpre hsz hrd
  refine (callsIn_wide (n := 0)).1 (callsIn_of_wp_marks (F := FF none) hf hb trivial ?_)
  have hl' : args.length ≤ n := Nat.le_of_ble_eq_true hl
  have htm : ∀ (i : Nat) (x : AV), args[i]? = some x → RdA w O θ x ((vs ++ Array.replicate (fn.ntmps - vs.size) undef).getD i undef) := by
    intro t x hp'
    have ht : t < vs.size := by rw [hsz]; exact (List.getElem?_eq_some_iff.1 hp').1
    have hv : vs[t]? = some vs[t] := by simp [ht]
    have : (vs ++ Array.replicate (fn.ntmps - vs.size) undef).getD t undef = vs[t] := by
      simp [Array.getElem?_append, ht]
    rw [this]
    exact hrd t x _ hp' hv
  refine h (FnW.cx w O hp θ (vs ++ Array.replicate (fn.ntmps - vs.size) undef)) w O θ ⟨rfl, fun g ⟨id, b, v, q1, q2, q3⟩ => (by obtain ⟨v', h4, _, h5⟩ := hpre.own id b q1; rw [q2] at h4; cases h4; exact (h5 g q3).1), htm⟩ _ w ⟨O, θ, ?_⟩
  refine ⟨by simp [hn]; omega, .nil, ?_, fun id b hb => ?_, hpre.inj, fun id v hv => ⟨hpre.dom id v hv, by simp⟩, fun k hk => (by cases hk), hpre.one, hO, ⟨rfl, rfl, rfl, Nat.le_refl _, fun _ _ _ => rfl⟩, fun g hg => hg.1, fun g hg => hO g hg.1, fun g hg => ?_, fun d hd => (by cases hd), fun g hg _ => ?_, fun t ht => rfl, hglob⟩
  · intro t x hx
    obtain ⟨_, hp⟩ := argsFrW_look args 0 t x hx
    exact htm t x (by simpa using hp)
  · obtain ⟨v, hv, hbo, hg⟩ := hpre.own id b hb
    exact ⟨v, hv, hbo, fun g hgg => ⟨(hg g hgg).1, (hg g hgg).2, fun hL => (hL ⟨id, b, v, hb, hv, hgg⟩).elim, fun hX => hX.2 ⟨id, b, v, hb, hv, hgg⟩⟩⟩
  · obtain ⟨id, b, v, h1, h2, h3⟩ := hg
    obtain ⟨v', h4, _, h5⟩ := hpre.own id b h1
    rw [h2] at h4; cases h4
    exact (h5 g h3).2
  · by_cases hh : HpOf hp θ g
    · exact .inr hh
    · exact .inl ⟨hg, hh⟩

/-! ### The names that are kept: those of a parameter that is not written. -/
mutual
def kbOf : AV → AV → List (Nat × Nat)
  | .lp i _, .lp j _ => [(i, j)]
  | .ls i, .ls j => [(i, j)]
  | .fn _ xs, .fn _ ys => kbL xs ys
  | _, _ => []
def kbL : List AV → List AV → List (Nat × Nat)
  | x :: xs, y :: ys => kbOf x y ++ kbL xs ys
  | _, _ => []
end
theorem kbOf_ok {w w' : World} {O O' : Nat → Prop} {θ θ' : Nat → Option Value} : ∀ {x : AV} {v : Value}, RdA w O θ x v → ∀ {y : AV}, RdA w' O' θ' y v → ∀ ij ∈ kbOf x y, θ' ij.2 = θ ij.1 := by
  intro x v h
  induction h with
  | lp id off g h =>
    intro y hy ij hij
    cases hy with
    | lp id' off' g' h' =>
      simp [kbOf] at hij; subst hij
      rw [h, h']
    | _ => simp [kbOf] at hij
  | ls id v h =>
    intro y hy ij hij
    cases hy with
    | ls id' _ h' =>
      simp [kbOf] at hij; subst hij
      rw [h, h']
    | _ => simp [kbOf] at hij
  | fn f caps us hn h ih =>
    intro y hy ij hij
    cases hy with
    | fn f' caps' _ hn' h' =>
      simp only [kbOf] at hij
      have key : ∀ (xs ys : List AV) (k : Nat), (∀ i : Nat, caps[k + i]? = xs[i]?) → (∀ i : Nat, caps'[k + i]? = ys[i]?) → ∀ ij ∈ kbL xs ys, θ' ij.2 = θ ij.1 := by
        intro xs
        induction xs with
        | nil => intro ys k _ _ ij hij; simp [kbL] at hij
        | cons x xs ihx =>
          intro ys k hx hy ij hij
          cases ys with
          | nil => simp [kbL] at hij
          | cons y ys =>
            simp only [kbL, List.mem_append] at hij
            rcases hij with hij | hij
            · have hx0 := hx 0
              have hy0 := hy 0
              simp at hx0 hy0
              have hk : k < us.size := by rw [hn]; exact (List.getElem?_eq_some_iff.1 hx0).1
              have hu : us[k]? = some us[k] := by simp [hk]
              exact ih k x _ hx0 hu (h' k y _ hy0 hu) ij hij
            · refine ihx ys (k + 1) (fun i => ?_) (fun i => ?_) ij hij
              · rw [show k + 1 + i = k + (i + 1) by omega, hx (i + 1)]; simp
              · rw [show k + 1 + i = k + (i + 1) by omega, hy (i + 1)]; simp
      exact key caps caps' 0 (fun i => by simp) (fun i => by simp) ij hij
    | _ => simp [kbOf] at hij
  | _ => intro y _ ij hij; simp [kbOf] at hij
/-- All that are kept. -/
def kbAll (args : List AV) (fr : List (Nat × Option AV)) : List Nat → List (Nat × Nat)
  | [] => []
  | t :: l => (match args[t]?, look t fr with | some x, some y => kbOf x y | _, _ => []) ++ kbAll args fr l

section
variable {ro : Option Nat} {P : Program} {c : Cx G} {s s' : St} {o : Oper} {d : Option Nat}

theorem kbAll_ok {w0 : World} {O0 : Nat → Prop} {θ0 : Nat → Option Value} {hp0 : List (Nat × Option Blk)} {args : List AV} (hc : WCx c w0 O0 θ0 hp0 args) {O : Nat → Prop} {θ : Nat → Option Value} {a : Act} {w : World} (hs : SimAt c s O θ a w) :
    ∀ (l : List Nat), (∀ t ∈ l, t ∈ s.kt) → ∀ ij ∈ kbAll args s.fr l, θ ij.2 = θ0 ij.1
  | [], _, ij, h => by simp [kbAll] at h
  | t :: l, hl, ij, h => by
    simp only [kbAll, List.mem_append] at h
    rcases h with h | h
    · split at h
      · rename_i x y hx hy
        have h1 := hc.rd t x hx
        have h2 := hs.fr t y hy
        rw [hs.kp t (hl t (by simp))] at h2
        exact kbOf_ok h1 h2 ij h
      · simp at h
    · exact kbAll_ok hc hs l (fun t ht => hl t (by simp [ht])) ij h

/-- The result variables, one by one, as the activation's values. -/
inductive RWs (P : Program) (s : St) : List ResultVar → List AV → Prop
  | nil : RWs P s [] []
  | cons (rv : ResultVar) (x : AV) (rvs : List ResultVar) (xs : List AV) (h1 : RV P s rv x) (h3 : RWs P s rvs xs) : RWs P s (rv :: rvs) (x :: xs)
theorem RWs.run {rvs : List ResultVar} {xs : List AV} (h : RWs P s rvs xs) {O : Nat → Prop} {θ : Nat → Option Value} {a : Act} {w : World} (hs : SimAt c s O θ a w) :
    ∃ us : List Value, (rvs.mapM fun rv => rvRun rv a.tmps).run P w = .ok us w ∧ us.length = xs.length ∧ ∀ (i : Nat) (x : AV) (u : Value), xs[i]? = some x → us[i]? = some u → RdA w O θ x u := by
  induction h with
  | nil => exact ⟨[], by simp, rfl, by simp⟩
  | cons rv x rvs xs h1 h3 ih =>
    obtain ⟨us, i1, i2, i3⟩ := ih
    obtain ⟨v, e1, e2⟩ := h1.run hs
    refine ⟨v :: us, by simp [List.mapM_cons, Sem.run_bind, e1, i1], by simp [i2], fun i r' u hr hu => ?_⟩
    cases i with
    | zero => simp at hr hu; subst hr; subst hu; exact e2
    | succ i => exact i3 i r' u (by simpa using hr) (by simpa using hu)

theorem post_retW {fn : Func} {w0 : World} {O0 : Nat → Prop} {θ0 : Nat → Option Value} {hp0 : List (Nat × Option Blk)} {args : List AV} {kb : List (Nat × Nat)} {rvs : List ResultVar} {xs : List AV} {e : Exit} (hc : WCx c w0 O0 θ0 hp0 args) (hr : fn.results = rvs.toArray) (h : RWs P s rvs xs) (hkb : kbAll args s.fr s.kt = kb) (he : e = .ret ∨ e = .normal) :
    Post c (FnWPost P fn w0 O0 θ0 hp0 kb xs s.hp s.next) e s := by
  rintro a w ⟨O, θ, hs⟩
  have key : LeavesInM (FF none) 0 P fn a.tmps (fun e w' => ∃ v O' θ', e = .returned v ∧ Ext (HpOf hp0 θ0) w0 w' ∧ (∀ g, O0 g → ¬ HpOf hp0 θ0 g → O' g) ∧ (∀ g, O' g → g < w'.heap.size) ∧
      (∀ g, O' g → g < w0.heap.size → O0 g) ∧
      PreW w' O' θ' s.hp s.next ∧ (∀ g, HpOf s.hp θ' g → HpOf hp0 θ0 g ∨ w0.heap.size ≤ g) ∧ (∀ ij ∈ kb, θ' ij.2 = θ0 ij.1) ∧ RdA w' O' θ' (topW xs) v) a.defers .returning w := by
    refine leaves_marks a.defers a w rfl hs fun a' w' ht hs2 => ?_
    obtain ⟨us, h1, h2, h3⟩ := h.run hs2
    rw [ht] at h1
    have hw0 : c.w0 = w0 := by rw [hc.cx]; rfl
    have hL : c.L = HpOf hp0 θ0 := by rw [hc.cx]; rfl
    have hX : c.X = fun g => O0 g ∧ ¬ HpOf hp0 θ0 g := by rw [hc.cx]; rfl
    refine ⟨_, run_results hr h1, _, O, θ, rfl, ?_, ?_, hs2.olt, ?_, ⟨fun id b hb => ?_, hs2.inj, fun id v hv => (hs2.dom id v hv).1, hs2.one⟩, ?_, ?_, ?_⟩
    · have he := hs2.ext; rw [hL, hw0] at he; exact he
    · intro g h1 h2; exact hs2.xo g (by rw [hX]; exact ⟨h1, h2⟩)
    · intro g h1 h2
      rcases hs2.oc g h1 (by rw [hw0]; exact h2) with h3 | h3
      · rw [hX] at h3; exact h3.1
      · rw [hL] at h3
        exact hc.bo g h3
    · obtain ⟨v, hv, hbo, hg⟩ := hs2.hp id b hb
      exact ⟨v, hv, hbo, fun g hgg => ⟨(hg g hgg).1, (hg g hgg).2.1⟩⟩
    · rintro g ⟨id, b, v, q1, q2, q3⟩
      obtain ⟨v', hv', _, hg⟩ := hs2.hp id b q1
      rw [q2] at hv'; cases hv'
      by_cases hh : HpOf hp0 θ0 g
      · exact .inl hh
      · right
        have := (hg g q3).2.2.1 (by rw [hL]; exact hh)
        rw [hw0] at this; exact this
    · intro ij hij
      rw [← hkb] at hij
      exact kbAll_ok hc hs2 s.kt (fun t ht => ht) ij hij
    · match xs, us, h2, h3 with
      | [r], [u], _, h3 => exact h3 0 r u rfl rfl
      | [], [], _, h3 => exact .tup [] #[] rfl (by simp)
      | r :: r' :: rs, u :: u' :: us, h2, h3 => exact .tup _ _ (by simpa using h2) (fun i r u hr hu => h3 i r u hr (by simpa using hu))
  rcases he with rfl | rfl
  · exact key
  · exact key
end
end Go.Abs

