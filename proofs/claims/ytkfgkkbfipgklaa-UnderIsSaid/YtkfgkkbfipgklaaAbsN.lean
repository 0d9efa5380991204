/- The abstract layer that the proof stands on: no condition. -/
import Derived.Test.YtkfgkkbfipgklaaAbsM
namespace Go.Abs
open Go.RowKit

section
variable {ro : Option Nat} {P : Program} {c : Cx} {Q : Exit → Act → World → Prop} {s s' : St}

/-! ### Where ways meet; loops -/
/-- Normally the code ends in a state of `I`; left otherwise it is as `Q` has it. -/
def Cut (c : Cx) (Q : Exit → Act → World → Prop) (I : St → Prop) : Exit → Act → World → Prop
  | .normal, a, w => ∃ s, I s ∧ Sim c s a w
  | e, a, w => Q e a w

theorem aw_cut {k : Code} (I : St → Prop) (h : AW ro P c k (Cut c Q I) s) (h2 : ∀ s1, I s1 → Post c Q .normal s1) : AW ro P c k Q s := fun a w hs => by
  refine wpIn_mono (h a w hs) fun e a' w' he => ?_
  cases e with
  | normal => obtain ⟨s1, h3, h4⟩ := he; exact h2 s1 h3 a' w' h4
  | _ => exact he
theorem post_cut {I : St → Prop} (s1 : St) (hI : I s1) (hi : Imp c s s1) : Post c (Cut c Q I) .normal s := fun a w hs => ⟨s1, hI, hi a w hs⟩
theorem post_cut_ret {I : St → Prop} (h : Post c Q .ret s) : Post c (Cut c Q I) .ret s := h
theorem post_cut_exit {I : St → Prop} {id : Nat} (h : Post c Q (.exit id) s) : Post c (Cut c Q I) (.exit id) s := h

/-- A loop in a block: it is left by the block's exit in a state of `I`. -/
def Lp (c : Cx) (id : Nat) (Q : Exit → Act → World → Prop) (I : St → Prop) : Exit → Act → World → Prop
  | .normal, _, _ => False
  | .exit id', a, w => if id' = id then ∃ s, I s ∧ Sim c s a w else Q (.exit id') a w
  | e, a, w => Q e a w

theorem aw_for {id : Nat} {body : Code} (n : Nat) (I : St → Prop) (h : RndW ro P c body (Lp c id Q I) n s) (h2 : ∀ s1, I s1 → Post c Q .normal s1) : AW ro P c (.block id (.loop body)) Q s := by
  refine aw_block fun a w hs => ?_
  refine wpIn_mono (wpIn_loop_rounds n (h a w hs)) fun e a' w' he => ?_
  cases e with
  | normal => exact he.elim
  | exit id' =>
    simp only [Lp] at he
    simp only [Exit.inBlock]
    split at he
    · rename_i e; subst e
      obtain ⟨s1, h3, h4⟩ := he
      simpa using h2 s1 h3 a' w' h4
    · rename_i e
      simp [e, he]
  | _ => exact he
theorem post_lp_break {id : Nat} {I : St → Prop} (s1 : St) (hI : I s1) (hi : Imp c s s1) : Post c (Lp c id Q I) (.exit id) s := fun a w hs => by
  simp only [Lp, if_true]
  exact ⟨s1, hI, hi a w hs⟩
theorem post_lp_ret {id : Nat} {I : St → Prop} (h : Post c Q .ret s) : Post c (Lp c id Q I) .ret s := h
theorem post_lp_exit {id id' : Nat} {I : St → Prop} (hne : Nat.beq id' id = false) (h : Post c Q (.exit id') s) : Post c (Lp c id Q I) (.exit id') s := fun a w hs => by
  have := h a w hs
  have hne' : ¬ id' = id := fun e => by subst e; simp at hne
  simpa [Lp, hne'] using this

theorem aw_cond_t {x y : Code} {t : Operand} {b : Bool} (ht : ev s t = some (.pv (.bool b))) (hb : b = true) (h1 : AW ro P c x Q s) : AW ro P c (.cond t x y) Q s :=
  aw_cond ht (fun _ => h1) (fun h => by rw [hb] at h; cases h)
theorem aw_cond_f {x y : Code} {t : Operand} {b : Bool} (ht : ev s t = some (.pv (.bool b))) (hb : b = false) (h1 : AW ro P c y Q s) : AW ro P c (.cond t x y) Q s :=
  aw_cond ht (fun h => by rw [hb] at h; cases h) (fun _ => h1)

theorem guard_on {all : List Oper} {o : Oper} {j d : Nat} {want t : Bool} (hg : o.guard = some (j, want)) (hj : ((all[j]?).bind (·.dst)) = some d) (hn : Nat.blt d s.n = true) (hl : look d s.fr = some (.pv (.bool t))) (ht : t = want) : Guard all s o true := by
  unfold Guard; rw [hg]; exact ⟨d, hj, by simpa [Nat.blt_eq] using hn, .inl ⟨t, hl, by subst ht; simp⟩⟩
theorem guard_off {all : List Oper} {o : Oper} {j d : Nat} {want t : Bool} (hg : o.guard = some (j, want)) (hj : ((all[j]?).bind (·.dst)) = some d) (hn : Nat.blt d s.n = true) (hl : look d s.fr = some (.pv (.bool t))) (ht : t = !want) : Guard all s o false := by
  unfold Guard; rw [hg]; exact ⟨d, hj, by simpa [Nat.blt_eq] using hn, .inl ⟨t, hl, by subst ht; cases want <;> rfl⟩⟩
theorem guard_undef {all : List Oper} {o : Oper} {j d : Nat} {want : Bool} (hg : o.guard = some (j, want)) (hj : ((all[j]?).bind (·.dst)) = some d) (hn : Nat.blt d s.n = true) (hl : look d s.fr = some (.tup [])) : Guard all s o false := by
  unfold Guard; rw [hg]; exact ⟨d, hj, by simpa [Nat.blt_eq] using hn, .inr ⟨hl, rfl⟩⟩
theorem guard_no {all : List Oper} {o : Oper} (hg : o.guard = none) : Guard all s o true := by unfold Guard; rw [hg]

theorem op_pick_t {o : Oper} {d : Option Nat} {x y z : Operand} {b : Bool} {v : AV} (ho : o.op = .pick x y z) (hx : ev s x = some (.pv (.bool b))) (hb : b = true) (hv : ev s y = some v) (hd : o.dst = d) (hn : dOk s d = true) : OpOk ro P c o s (s.put d (some v)) :=
  op_pick ho hx (by rw [hb]; exact hv) hd hn
theorem op_pick_f {o : Oper} {d : Option Nat} {x y z : Operand} {b : Bool} {v : AV} (ho : o.op = .pick x y z) (hx : ev s x = some (.pv (.bool b))) (hb : b = false) (hv : ev s z = some v) (hd : o.dst = d) (hn : dOk s d = true) : OpOk ro P c o s (s.put d (some v)) :=
  op_pick ho hx (by rw [hb]; exact hv) hd hn

/-! ### F's way of saying that something fails -/
theorem bind_some {α β : Type} {x : Option α} {k : α → Option β} {r : β} (h : x.bind k = some r) : ∃ y, x = some y ∧ k y = some r := by
  cases x with
  | none => cases h
  | some y => exact ⟨y, rfl, h⟩
theorem ite_some {β : Type} {b : Bool} {x y : Option β} {r : β} (h : (if b = true then x else y) = some r) : (b = true ∧ x = some r) ∨ (b = false ∧ y = some r) := by
  cases b with
  | true => exact .inl ⟨rfl, by simpa using h⟩
  | false => exact .inr ⟨rfl, by simpa using h⟩
/-- `n` elements of `b` bytes each have room. -/
def room (n : Int) (b : Int) : Option Unit := if n * b ≤ 140737488355328 then some () else none
theorem room_spec {n b : Int} {u : Unit} (h : room n b = some u) : n * b ≤ 140737488355328 := by
  unfold room at h; split at h
  · assumption
  · cases h
theorem room_nat {n m b : Nat} {u : Unit} (h : room ((n : Int) + (m : Int)) (b : Int) = some u) : (n + m) * b ≤ 140737488355328 := by
  have := room_spec h
  rw [← Int.natCast_add, ← Int.natCast_mul] at this
  omega

theorem room_map {α β γ : Type} {f : α → γ} {g : β → γ} {l : List α} {m : List β} {b : Nat} {u : Unit} (h : room ((l.length : Int) + (m.length : Int)) (b : Int) = some u) : ((l.map f).length + (m.map g).length) * b ≤ 140737488355328 := by
  rw [List.length_map, List.length_map]; exact room_nat h
/-- A make of length `n` and capacity `m`. -/
def mkOk (n m b : Int) : Option Unit := if 0 ≤ n ∧ n ≤ m ∧ m * b ≤ 140737488355328 then some () else none
theorem mkOk_spec {n m b : Int} {u : Unit} (h : mkOk n m b = some u) : 0 ≤ n ∧ n ≤ m ∧ m * b ≤ 140737488355328 := by
  unfold mkOk at h; split at h
  · assumption
  · cases h
theorem map_rep {α β : Type} (f : α → β) (n : Nat) (x : α) : List.replicate n (f x) = (List.replicate n x).map f := by simp
theorem map_cp {α β : Type} (f : α → β) (l m : List α) : (m.map f).take (l.map f).length ++ (l.map f).drop (m.map f).length = (m.take l.length ++ l.drop m.length).map f := by simp
theorem map_set' {α β : Type} (f : α → β) (l : List α) (i : Nat) (x : α) : (l.map f).set i (f x) = (l.set i x).map f := by simp
theorem map_get {α β : Type} (f : α → β) {l : List α} {i : Int} {y : α} (h : idx l i = some y) : (l.map f)[i.toNat]? = some (f y) := by
  rw [List.getElem?_map, (idx_spec h).2.1]; rfl

/-- What a piece of code comes to that may leave: the whole answer, or what goes on. -/
inductive Ctl (R S : Type) where
  | stop (r : R)
  | next (s : S)
def Ctl.go {R S : Type} : Ctl (Option R) S → (S → Option R) → Option R
  | .stop a, _ => a
  | .next s, k => k s
def Ctl.fin {R S : Type} : Ctl R S → (S → Option R) → Option R
  | .stop r, _ => some r
  | .next s, k => k s
/-- A test that may fail, ahead of what may leave. -/
def obind {α R S : Type} : Option α → (α → Ctl (Option R) S) → Ctl (Option R) S
  | none, _ => .stop none
  | some x, k => k x
theorem go_bind {α R S : Type} {x : Option α} {f : α → Ctl (Option R) S} {k : S → Option R} {r : R} (h : Ctl.go (obind x f) k = some r) : ∃ y, x = some y ∧ Ctl.go (f y) k = some r := by
  cases x with
  | none => cases h
  | some y => exact ⟨y, rfl, h⟩
theorem go_ite {R S : Type} {b : Bool} {x y : Ctl (Option R) S} {k : S → Option R} {r : R} (h : Ctl.go (if b = true then x else y) k = some r) : (b = true ∧ Ctl.go x k = some r) ∨ (b = false ∧ Ctl.go y k = some r) := by
  cases b with
  | true => exact .inl ⟨rfl, by simpa using h⟩
  | false => exact .inr ⟨rfl, by simpa using h⟩
theorem fin_some {R S : Type} {x : Ctl R S} {k : S → Option R} {r : R} (h : Ctl.fin x k = some r) : x = .stop r ∨ ∃ s, x = .next s ∧ k s = some r := by
  cases x with
  | stop r' => left; cases h; rfl
  | next s => exact .inr ⟨s, rfl, h⟩

theorem aw_join {k : Code} {R S : Type} {X : Ctl (Option R) S} {kk : S → Option R} {r : R} (_hF : Ctl.go X kk = some r) (F : S → St) (h : AW ro P c k (Cut c Q fun s1 => ∃ p, s1 = F p ∧ kk p = some r) s) (h2 : ∀ p, kk p = some r → Post c Q .normal (F p)) : AW ro P c k Q s :=
  aw_cut _ h (by rintro _ ⟨p, rfl, hp⟩; exact h2 p hp)

/-- A loop's rounds, by the number that is left. -/
theorem rnd_loop {α : Type} {body : Code} {m : Nat} (S : α → St) (Inv : Nat → α → Prop) (x0 : α) (hi : Imp c s (S x0)) (h0 : Inv m x0) (hz : ∀ x, ¬ Inv 0 x)
    (hs : ∀ n x, Inv (n + 1) x → (∀ x', Inv n x' → RndW ro P c body Q n (S x')) → RndW ro P c body Q (n + 1) (S x)) : RndW ro P c body Q m s := by
  refine rnd_imp hi ?_
  have : ∀ n x, Inv n x → RndW ro P c body Q n (S x) := by
    intro n
    induction n with
    | zero => intro x h; exact absurd h (hz x)
    | succ n ih => intro x h; exact hs n x h ih
  exact this m x0 h0

theorem nolent3 {w : World} {O : Nat → Prop} : ∀ g, ¬ (Fn.cx w O).L g := fun _ h => h

def FzH (hp : List (Nat × Option Blk)) : List (Nat × Option Blk) → Prop
  | [] => True
  | (id, some b) :: l => look id hp = some b ∧ FzH hp l
  | (_, none) :: _ => False
theorem FzH.spec {hp : List (Nat × Option Blk)} : ∀ {fz : List (Nat × Option Blk)}, FzH hp fz → ∀ x ∈ fz, ∃ b, x.2 = some b ∧ look x.1 hp = some b
  | [], _, x, hx => by simp at hx
  | (id, some b) :: l, h, x, hx => by
    rcases List.mem_cons.1 hx with e | e
    · subst e; exact ⟨b, rfl, h.1⟩
    · exact FzH.spec h.2 x e
  | (_, none) :: _, h, _, _ => h.elim

theorem evl_nil : evl s [] = some [] := rfl
theorem evl_cons {x : Operand} {l : List Operand} {v : AV} {vs : List AV} (h1 : ev s x = some v) (h2 : evl s l = some vs) : evl s (x :: l) = some (v :: vs) := by simp [evl, h1, h2]
theorem evs_nil : evs s [] = some [] := rfl
theorem evs_cons {i : Nat} {x : Operand} {l : List (Nat × Operand)} {v : AV} {vs : List (Nat × AV)} (h1 : ev s x = some v) (h2 : evs s l = some vs) : evs s ((i, x) :: l) = some ((i, v) :: vs) := by simp [evs, h1, h2]
theorem evo_some {x : Operand} {k : IntKind} {n : Int} (h1 : ev s x = some (.pv (.int k n))) : evo s (some x) = some (some n) := by simp [evo, h1]
theorem fresh_free {k : Nat} (h : s.free.elem k = true) : freshB s k = true := by simp only [freshB, h, Bool.or_true]
theorem opOk_imp {o : Oper} {s1 : St} (h : OpOk ro P c o s s') (hi : Imp c s' s1) : OpOk ro P c o s s1 := fun a w hs K Q hK => h a w hs K Q fun a' w' h' => hK a' w' (hi a' w' h')

/-! ### nil slices -/
theorem imp_nil_vs (t sz : Nat) (h : look t s.fr = some (.pv .nils)) : Imp c s { s with fr := (t, some (.pv (.vs sz []))) :: s.fr } := by
  rintro a w ⟨O, θ, hs⟩
  refine ⟨O, θ, hs.size, hs.df, ?_, hs.hp, hs.inj, hs.dom, hs.flt, hs.one, hs.olt, hs.ext, hs.xo, hs.xlt, hs.llt, hs.marks, hs.oc, hs.kp, hs.jn⟩
  intro t' x hx
  simp only [look_cons] at hx
  split at hx
  · rename_i e; subst e; cases hx
    have := rda_pv (hs.fr _ _ h)
    generalize a.tmps.getD t undef = v at this ⊢
    cases this
    exact .pv _ _ (.vs0 sz)
  · exact hs.fr _ _ hx

theorem imp_nil_own (t e sz kk : Nat) (hk : freshB s kk = true) (h : look t s.fr = some (.pv .nils)) : Imp c s ((s.addAt kk none (.row e sz [])).put (some t) (some (.ls kk))) := by
  rintro a w ⟨O, θ, hs⟩
  obtain ⟨O', θ', h1, h2, h3, h4⟩ := hs.addAt (w' := w) (row := none) (v := .slice none 0 0) (b := .row e sz []) kk hk none (by simp) (fun _ => rfl) ⟨rfl, rfl, rfl, Nat.le_refl _, fun _ _ _ => rfl⟩ (by simp [blkOf]) rfl
      (fun O' θ' _ _ => ⟨[], ownsW_nil w e sz, ⟨by simp, by simp, by simp, fun i j row x u h => by simp at h⟩⟩)
  refine ⟨O', θ', h4.size, h4.df, ?_, h4.hp, h4.inj, h4.dom, h4.flt, h4.one, h4.olt, h4.ext, h4.xo, h4.xlt, h4.llt, h4.marks, h4.oc, h4.kp, h4.jn⟩
  intro t' x hx
  simp only [St.put, look_cons] at hx
  split at hx
  · rename_i e; subst e; cases hx
    have := rda_pv (hs.fr _ _ h)
    generalize a.tmps.getD t undef = v at this ⊢
    cases this
    exact .ls _ _ h3
  · exact h4.fr _ _ hx

/-- A box's cell that holds nil: it is a row of the call's own from now on. -/
theorem imp_nil_box (id off t e sz kk : Nat) {cells : List AV} (hk : freshB s kk = true) (hb : look id s.hp = some (.box t cells)) (h : cells[off]? = some (.pv .nils)) : Imp c s ((s.addAt kk none (.row e sz [])).setBlk id (some (.box t (cells.set off (.ls kk))))) := by
  rintro a w ⟨O, θ, hs⟩
  obtain ⟨O', θ', h1, h2, h3, h4⟩ := hs.addAt (w' := w) (row := none) (v := .slice none 0 0) (b := .row e sz []) kk hk none (by simp) (fun _ => rfl) ⟨rfl, rfl, rfl, Nat.le_refl _, fun _ _ _ => rfl⟩ (by simp [blkOf]) rfl
      (fun O' θ' _ _ => ⟨[], ownsW_nil w e sz, ⟨by simp, by simp, by simp, fun i j row x u h => by simp at h⟩⟩)
  have hne : id ≠ kk := by
    intro e; subst e
    obtain ⟨v, hv, _⟩ := hs.hp id _ hb
    have h5 := hs.dom id v hv
    simp only [freshB, Bool.or_eq_true, List.elem_eq_mem, decide_eq_true_eq] at hk
    rcases hk with hk | hk
    · have := Nat.eq_of_beq_eq_true hk; omega
    · exact h5.2 hk
  have hb' : look id (s.addAt kk none (.row e sz [])).hp = some (.box t cells) := by
    simp only [St.addAt, look_cons]
    rw [if_neg (fun e => hne e.symm)]
    exact hb
  obtain ⟨v, hv, ⟨g, us, rfl, k1, k2, k3⟩, k4⟩ := h4.hp id _ hb'
  refine ⟨O', θ', h4.upd hb' hv (World.grownBy.refl w _) ⟨g, us, rfl, k1, by simpa using k2, fun j x u hx hu => ?_⟩⟩
  rw [List.getElem?_set] at hx
  split at hx
  · rename_i e; subst e
    split at hx
    · cases hx
      obtain ⟨m1, m2⟩ := k3 off _ u h hu
      have := rda_pv m1
      cases this
      exact ⟨.ls _ _ h3, m2⟩
    · cases hx
  · exact k3 j x u hx hu

variable {o : Oper} {d : Option Nat}
theorem op_len_nils {T e sz' : Nat} {x : Operand} (ho : o.op = .call { callee := .builtin .len, args := #[x], argTypes := #[T] }) (hx : ev s x = some (.pv .nils)) (ht : sliceB P T e sz' = true) (hd : o.dst = d) (hn : dOk s d = true) :
    OpOk ro P c o s (s.put d (some (.pv (.int .i64 0)))) :=
  opOk_value hd hn (by rw [ho]; intro k h; cases h) fun a w O θ hs => by
    obtain ⟨i, h1, _, _⟩ := sliceB_spec ht
    have hv := ev_pv hs hx
    generalize ha : a.eval x = u at hv
    cases hv
    exact ⟨.int .i64 0, by simp [execOp, ho, resolve, invoke, builtin, ha, Builtin.len_, run_underlying h1, goInt], .pv _ _ (.int _ _)⟩
end
end Go.Abs
