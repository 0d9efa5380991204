/- The abstract layer that the proof stands on: no condition. -/
import Derived.Test.YtkfgkkbfipgklaaAbsL
import Derived.RangeFuncRecord
namespace Go.Abs
open Go.RowKit

/-- What a call hands back. -/
inductive Res where
  | p (p : PV)
  | own (e sz : Nat) (rows : List (List PV))
  | clo (f : Nat) (pre : List PV) (t : TypeId) (cells : List PV) (post : List PV)

def ResOk (w : World) (O : Nat → Prop) (lo : Nat) : Res → Value → Prop
  | .p p, v => Rd w O p v
  | .own e sz rows, v => BlkOk w O (fun _ => none) v (.row e sz rows) ∧ v.oneCell' = true ∧ ∀ g, blkOf v = some g → lo ≤ g ∧ g < w.heap.size ∧ O g
  | .clo f pre t cells post, v => ∃ us : Array Value, v = .func (.func f) #[] us ∧ us.size = pre.length + 1 + post.length ∧ (∀ (i : Nat) (p : PV) (u : Value), pre[i]? = some p → us[i]? = some u → Rd w O p u) ∧
      (∀ (i : Nat) (p : PV) (u : Value), post[i]? = some p → us[pre.length + 1 + i]? = some u → Rd w O p u) ∧
      ∃ g, us[pre.length]? = some (.pointer (some ⟨g, 0, none⟩)) ∧ BlkOk w O (fun _ => none) (.pointer (some ⟨g, 0, none⟩)) (.box t (cells.map .pv)) ∧ lo ≤ g ∧ g < w.heap.size ∧ O g

def RetOk (w : World) (O : Nat → Prop) (lo : Nat) (rs : List Res) (v : Value) : Prop :=
  match rs with
  | [r] => ResOk w O lo r v
  | rs => ∃ us : Array Value, v = .tuple us ∧ us.size = rs.length ∧ ∀ (i : Nat) (r : Res) (u : Value), rs[i]? = some r → us[i]? = some u → ResOk w O lo r u

/-- **A function's contract**: called with values that read as `args`, in whatever world, it returns what reads as `rs`, and nothing that was there has turned. -/
def Fn (P : Program) (f : FuncId) (args : List PV) (rs : List Res) : Prop :=
  ∀ (w : World) (O : Nat → Prop) (vs : Array Value), (∀ g, O g → g < w.heap.size) → vs.size = args.length →
    (∀ (i : Nat) (p : PV) (v : Value), args[i]? = some p → vs[i]? = some v → Rd w O p v) →
    Calls P f vs w fun e w' => ∃ v O', e = .returned v ∧ w.grownBy w' none ∧ (∀ g, O g → O' g) ∧ RetOk w' O' w.heap.size rs v

def Fn.cx (w : World) (O : Nat → Prop) : Cx := { w0 := w, L := fun _ => False, X := O, K := fun _ => False, J := fun _ _ _ _ => True, Jst := fun _ _ => trivial, KX := fun _ h => h.elim, t0 := #[] }

/-- The post of a function's body. -/
def FnPost (P : Program) (fn : Func) (w : World) (O : Nat → Prop) (rs : List Res) : Exit → Act → World → Prop :=
  bodyPostM (FF none) 0 P fn fun e w' => ∃ v O', e = .returned v ∧ w.grownBy w' none ∧ (∀ g, O g → O' g) ∧ RetOk w' O' w.heap.size rs v

def argsFr : Nat → List PV → List (Nat × Option AV)
  | _, [] => []
  | i, p :: ps => (i, some (.pv p)) :: argsFr (i + 1) ps

theorem argsFr_look : ∀ (ps : List PV) (k t : Nat) (x : AV), look t (argsFr k ps) = some x → ∃ p, x = .pv p ∧ k ≤ t ∧ ps[t - k]? = some p
  | [], k, t, x, h => by simp [argsFr, look] at h
  | p :: ps, k, t, x, h => by
    simp only [argsFr, look_cons] at h
    split at h
    · rename_i e; subst e; cases h; exact ⟨p, rfl, Nat.le_refl _, by simp⟩
    · obtain ⟨q, h1, h2, h3⟩ := argsFr_look ps (k + 1) t x h
      refine ⟨q, h1, by omega, ?_⟩
      rw [show t - k = (t - (k + 1)) + 1 by omega, List.getElem?_cons_succ]
      exact h3

/-- A contract, out of the body's walk. -/
theorem fn_of_body {P : Program} {f : FuncId} {fn : Func} {code : Code} {n : Nat} {args : List PV} {rs : List Res} (hf : P.funcs[f]? = some fn) (hb : fn.body = some code) (hn : fn.ntmps = n) (hl : Nat.ble args.length n = true)
    (h : ∀ w O, AW none P (Fn.cx w O) code (FnPost P fn w O rs) { n := n, fr := argsFr 0 args, hp := [], next := 0 }) : Fn P f args rs := by
  intro w O vs hO hsz hrd
  refine (callsIn_wide (n := 0)).1 (callsIn_of_wp_marks (F := FF none) hf hb trivial ?_)
  have hl' : args.length ≤ n := Nat.le_of_ble_eq_true hl
  refine h w O _ w ⟨O, fun _ => none, ?_⟩
  refine ⟨by simp [hn]; omega, .nil, ?_, fun id b hb => (by simp [look] at hb), fun i j bi bj vi vj g hi => (by simp [look] at hi), fun id v hv => (by cases hv), fun k hk => (by cases hk), fun id v hv => (by cases hv), hO, ⟨rfl, rfl, rfl, Nat.le_refl _, fun _ _ _ => rfl⟩, fun g hg => hg, hO, fun g hg => hg.elim, fun d hd => (by cases hd), fun g hg _ => .inl hg, fun t ht => (by cases ht), trivial⟩
  intro t x hx
  obtain ⟨p, rfl, _, hp⟩ := argsFr_look args 0 t x hx
  have hp' : args[t]? = some p := by simpa using hp
  have ht : t < vs.size := by rw [hsz]; exact (List.getElem?_eq_some_iff.1 hp').1
  have hv : vs[t]? = some vs[t] := by simp [ht]
  have : (vs ++ Array.replicate (fn.ntmps - vs.size) undef).getD t undef = vs[t] := by
    simp [Array.getElem?_append, ht]
  rw [this]
  exact .pv _ _ (hrd t p _ hp' hv)

section
variable {ro : Option Nat} {P : Program} {c : Cx} {s s' : St} {o : Oper} {d : Option Nat}

/-! ### The end of a body -/
/-- What a result variable holds. -/
inductive RV (P : Program) (s : St) : ResultVar → AV → Prop
  | tmp (t : Nat) (x : AV) (h : look t s.fr = some x) : RV P s (.tmp t) x
  | one (a id off : Nat) (T t : Nat) (cells : List AV) (x : AV) (h1 : look a s.fr = some (.lp id off)) (h2 : look id s.hp = some (.box t cells)) (h3 : oneB P T = true) (h4 : cells[off]? = some x) : RV P s (.cell a T) x
  | agg (a id off : Nat) (T t n : Nat) (cells : List AV) (ps : List PV) (h1 : look a s.fr = some (.lp id off)) (h2 : look id s.hp = some (.box t cells)) (h3 : aggB P T n = true) (h4 : pvs ((cells.drop off).take n) = some ps) (h5 : ps.length = n) (h6 : (ps.all PV.one) = true) : RV P s (.cell a T) (.pv (.agg ps))

def rvRun : ResultVar → Array Value → Sem Value
  | .tmp t, tmps => pure (tmps.getD t undef)
  | .cell a t, tmps => do loadVar t (← asAddr (tmps.getD a undef))

theorem RV.run {rv : ResultVar} {x : AV} (h : RV P s rv x) {O : Nat → Prop} {θ : Nat → Option Value} {a : Act} {w : World} (hs : SimAt c s O θ a w) : ∃ v, (rvRun rv a.tmps).run P w = .ok v w ∧ RdA w O θ x v := by
  cases h with
  | tmp t _ h => exact ⟨_, by simp [rvRun], hs.fr _ _ h⟩
  | one ad id off T t cells _ h1 h2 h3 h4 =>
    -- by the rule for a load, over a frame that holds just this
    have hr := hs.fr _ _ h1
    generalize hv : a.tmps.getD ad undef = u at hr
    cases hr with
    | lp _ _ g h =>
      obtain ⟨v', hv', ⟨g', us, he, k1, k2, k3⟩, _⟩ := hs.hp id _ h2
      rw [h] at hv'; cases hv'
      cases he
      have hk : off < us.size := by rw [k2]; exact (List.getElem?_eq_some_iff.1 h4).1
      have hu : us[off]? = some us[off] := by simp [hk]
      have := run_loadAt_one (P := P) h3 w ⟨g, off, none⟩ us[off] (by rw [cell_of_row w g off us t (0, 0) k1]; exact hu)
      refine ⟨us[off], ?_, (k3 off x _ h4 hu).1⟩
      simp only [rvRun, hv, asAddr, Sem.run_bind, Sem.run_pure, Result.andThen_ok]
      simpa [Instr.loadAt, Instr.sureAddr] using this
  | agg ad id off T t n cells ps h1 h2 h3 h4 h5 h6 =>
    have hr := hs.fr _ _ h1
    generalize hv : a.tmps.getD ad undef = u at hr
    cases hr with
    | lp _ _ g h =>
      obtain ⟨v', hv', ⟨g', us, he, k1, k2, k3⟩, _⟩ := hs.hp id _ h2
      rw [h] at hv'; cases hv'
      cases he
      have hc' := pvs_spec h4
      have hps : ∀ j p, ps[j]? = some p → j < n ∧ cells[off + j]? = some (.pv p) := by
        intro j p hj
        have hjn : j < n := by have := (List.getElem?_eq_some_iff.1 hj).1; omega
        refine ⟨hjn, ?_⟩
        have : ((cells.drop off).take n)[j]? = some (.pv p) := by rw [hc', List.getElem?_map, hj]; rfl
        rw [List.getElem?_take, if_pos hjn, List.getElem?_drop] at this
        exact this
      have hlen : off + n ≤ us.size ∨ n = 0 := by
        rcases Nat.eq_zero_or_pos n with h0 | h0
        · exact .inr h0
        · left
          obtain ⟨p, hp⟩ : ∃ p, ps[n - 1]? = some p := ⟨ps[n - 1]'(by omega), List.getElem?_eq_getElem (by omega)⟩
          have := (List.getElem?_eq_some_iff.1 (hps _ p hp).2).1
          omega
      have hrun := run_loadAt_agg (P := P) h3 w ⟨g, off, none⟩ ((us.toList.drop off).take n) (by simp; omega) (fun j u hu => by
        rw [List.getElem?_take] at hu
        split at hu
        · rw [List.getElem?_drop] at hu
          rw [Addr.add_lit, cell_of_row w g _ us t (0, 0) k1]
          simpa using hu
        · cases hu)
      refine ⟨.agg ((us.toList.drop off).take n).toArray, ?_, .pv _ _ (.agg _ _ (by simp; omega) (by simpa using h6) ?_)⟩
      · simp only [rvRun, hv, asAddr, Sem.run_bind, Sem.run_pure, Result.andThen_ok]
        simpa [Instr.loadAt, Instr.sureAddr] using hrun
      · intro j p u hp hu
        obtain ⟨hjn, hcj⟩ := hps j p hp
        have hu' : us[off + j]? = some u := by
          simp only [List.getElem?_toArray, List.getElem?_take, if_pos hjn, List.getElem?_drop] at hu
          simpa using hu
        exact rda_pv (k3 (off + j) _ u hcj hu').1

/-- Which result a value of the activation is. -/
inductive AR (c : Cx) (s : St) : AV → Res → Prop
  | p (p : PV) : AR c s (.pv p) (.p p)
  | own (id e sz : Nat) (rows : List (List PV)) (h : look id s.hp = some (.row e sz rows)) (hl : ∀ g, ¬ c.L g) : AR c s (.ls id) (.own e sz rows)
  | clo (f : Nat) (pre post : List PV) (id t : Nat) (cells : List PV) (h : look id s.hp = some (.box t (cells.map .pv))) (hl : ∀ g, ¬ c.L g) : AR c s (.fn f (pre.map .pv ++ (.lp id 0 :: post.map .pv))) (.clo f pre t cells post)

theorem AR.ok {x : AV} {r : Res} (h : AR c s x r) {O : Nat → Prop} {θ : Nat → Option Value} {a : Act} {w : World} (hs : SimAt c s O θ a w) {v : Value} (hv : RdA w O θ x v) : ResOk w O c.w0.heap.size r v := by
  cases h with
  | p p => exact rda_pv hv
  | own id e sz rows h hl =>
    cases hv with
    | ls _ _ hv =>
      obtain ⟨v', hv', hb, hg⟩ := hs.hp id _ h
      rw [hv] at hv'; cases hv'
      refine ⟨hb, hs.one _ _ hv, fun g hgg => ?_⟩
      obtain ⟨g1, g2, g3, g4⟩ := hg g hgg
      exact ⟨g3 (hl g), g2, g1⟩
  | clo f pre post id t cells h hl =>
    cases hv with
    | fn _ _ us hn hh =>
      obtain ⟨v', hv', hb, hg⟩ := hs.hp id _ h
      obtain ⟨g, us', rfl, b1, b2, b3⟩ := hb
      obtain ⟨g1, g2, g3, g4⟩ := hg g rfl
      have hlen : us.size = pre.length + 1 + post.length := by rw [hn]; simp; omega
      have hu : us[pre.length]? = some us[pre.length] := by simp
      have hm := hh pre.length (.lp id 0) _ (by simp) hu
      generalize us[pre.length] = up at hm hu
      cases hm with
      | lp _ _ g' hm =>
        rw [hv'] at hm; cases hm
        refine ⟨us, rfl, hlen, fun i p u hp hu => ?_, fun i p u hp hu => ?_, g, hu, ⟨g, us', rfl, b1, b2, fun j x u hx hu => ?_⟩, g3 (hl g), g2, g1⟩
        · have hi : i < pre.length := (List.getElem?_eq_some_iff.1 hp).1
          exact rda_pv (hh i (.pv p) u (by rw [List.getElem?_append_left (by simpa using hi), List.getElem?_map, hp]; rfl) hu)
        · refine rda_pv (hh _ (.pv p) u ?_ hu)
          rw [List.getElem?_append_right (by simp; omega)]
          simp only [List.length_map]
          rw [show pre.length + 1 + i - pre.length = i + 1 by omega, List.getElem?_cons_succ, List.getElem?_map, hp]; rfl
        · have := b3 j x u hx hu
          simp only [List.getElem?_map, Option.map_eq_some_iff] at hx
          obtain ⟨q, hq, rfl⟩ := hx
          exact ⟨.pv _ _ (rda_pv this.1), this.2⟩

/-- The result variables, one by one. -/
inductive RVs (P : Program) (c : Cx) (s : St) : List ResultVar → List Res → Prop
  | nil : RVs P c s [] []
  | cons (rv : ResultVar) (x : AV) (r : Res) (rvs : List ResultVar) (rs : List Res) (h1 : RV P s rv x) (h2 : AR c s x r) (h3 : RVs P c s rvs rs) : RVs P c s (rv :: rvs) (r :: rs)

theorem RVs.run {rvs : List ResultVar} {rs : List Res} (h : RVs P c s rvs rs) {O : Nat → Prop} {θ : Nat → Option Value} {a : Act} {w : World} (hs : SimAt c s O θ a w) :
    ∃ us : List Value, (rvs.mapM fun rv => rvRun rv a.tmps).run P w = .ok us w ∧ us.length = rs.length ∧ ∀ (i : Nat) (r : Res) (u : Value), rs[i]? = some r → us[i]? = some u → ResOk w O c.w0.heap.size r u := by
  induction h with
  | nil => exact ⟨[], by simp, rfl, by simp⟩
  | cons rv x r rvs rs h1 h2 h3 ih =>
    obtain ⟨us, i1, i2, i3⟩ := ih
    obtain ⟨v, e1, e2⟩ := h1.run hs
    refine ⟨v :: us, by simp [List.mapM_cons, Sem.run_bind, e1, i1], by simp [i2], fun i r' u hr hu => ?_⟩
    cases i with
    | zero => simp at hr hu; subst hr; subst hu; exact h2.ok hs e2
    | succ i => exact i3 i r' u (by simpa using hr) (by simpa using hu)

theorem run_results {fn : Func} {rvs : List ResultVar} (hr : fn.results = rvs.toArray) {us : List Value} {tmps : Array Value} {w : World} (h : (rvs.mapM fun rv => rvRun rv tmps).run P w = .ok us w) :
    (results fn tmps).run P w = .ok (match us with | [v] => v | us => .tuple us.toArray) w := by
  have hm : (fn.results.mapM fun rv => rvRun rv tmps).run P w = .ok us.toArray w := by
    rw [hr, List.mapM_toArray]
    simp only [Sem.run_map, h]
    rfl
  have e : results fn tmps = (do let vs ← fn.results.mapM (fun rv => rvRun rv tmps); pure (if h : vs.size = 1 then vs[0] else .tuple vs)) := by
    have : (fun rv => rvRun rv tmps) = (fun rv => match rv with | .tmp t => pure (tmps.getD t undef) | .cell a t => do loadVar t (← asAddr (tmps.getD a undef))) := by
      funext rv; cases rv <;> rfl
    rw [this]; rfl
  rw [e, Sem.run_bind, hm]
  simp only [Result.andThen_ok, Sem.run_pure]
  match us with
  | [] => rfl
  | [v] => rfl
  | v :: v' :: us => simp

/-! ### The marks are taken -/
theorem cell_shut {w : World} {D : Nat} {ds : Option (List Deferred)} (hD : w.heap[D]? = some (.deferred ds)) (off : Nat) : w.cell? ⟨D, off, none⟩ = none := by simp [World.cell?, hD]
theorem Rd.shut {w : World} {O : Nat → Prop} {D : Nat} {ds : Option (List Deferred)} {ob : Obj} (hD : w.heap[D]? = some (.deferred ds)) : ∀ {p : PV} {v : Value}, Rd w O p v → Rd (w.putObj D ob) O p v := by
  have hc : ∀ b off u, w.cell? ⟨b, off, none⟩ = some u → (w.putObj D ob).cell? ⟨b, off, none⟩ = some u := by
    intro b off u h
    have hne : b ≠ D := by rintro rfl; rw [cell_shut hD] at h; cases h
    rw [← h]
    exact World.cell?_of_block (a := ⟨b, off, none⟩) (World.putObj_heap_other hne)
  intro p v h
  induction h with
  | int k n => exact .int k n
  | bool b => exact .bool b
  | str s => exact .str s
  | agg cs us hn hone h ih => exact .agg cs us hn hone ih
  | vsz sz a cap h0 hm => exact .vsz sz a cap h0 hm
  | vs sz rows b off cap us h1 h2 h3 h4 h5 h6 h7 h8 ih => exact .vs sz rows b off cap us h1 (by simpa using h2) h3 h4 h5 h6 (fun k hk => hc _ _ _ (h7 k hk)) ih
  | vp row b off us h1 h2 h3 h4 h5 ih => exact .vp row b off us h1 (by simpa using h2) h3 (fun k hk => hc _ _ _ (h4 k hk)) ih
  | nilp => exact .nilp
  | nils => exact .nils
  | fn f caps us hn h ih => exact .fn f caps us hn ih
  | nilf => exact .nilf
  | yld l => exact .yld l
theorem RdA.shut {w : World} {O : Nat → Prop} {θ : Nat → Option Value} {D : Nat} {ds : Option (List Deferred)} {ob : Obj} (hD : w.heap[D]? = some (.deferred ds)) : ∀ {x : AV} {v : Value}, RdA w O θ x v → RdA (w.putObj D ob) O θ x v := by
  intro x v h
  induction h with
  | pv p v h => exact .pv p v (h.shut hD)
  | ls id v h => exact .ls id v h
  | le id sz i off g n cap h => exact .le id sz i off g n cap h
  | lp id off g h => exact .lp id off g h
  | ra id m g n cap h h0 => exact .ra id m g n cap h h0
  | cs sz rows v h hc => exact .cs sz rows v (h.shut hD) hc
  | fn f caps us hn h ih => exact .fn f caps us hn ih
  | tup xs us hn h ih => exact .tup xs us hn ih
theorem BlkOk.shut {w : World} {O : Nat → Prop} {θ : Nat → Option Value} {D : Nat} {ds : Option (List Deferred)} {ob : Obj} (hD : w.heap[D]? = some (.deferred ds)) {v : Value} {b : Blk} (hb : ∀ g, blkOf v = some g → g ≠ D) (h : BlkOk w O θ v b) : BlkOk (w.putObj D ob) O θ v b := by
  cases b with
  | row e sz rows =>
    obtain ⟨us, h1, h2⟩ := h
    exact ⟨us, ownsRow_of_block h1 (fun g hg => World.putObj_heap_other (hb g hg)), h2.len, h2.hz, h2.one, fun i j row c u q1 q2 q3 => (h2.rd i j row c u q1 q2 q3).shut hD⟩
  | box t cells =>
    obtain ⟨g, us, rfl, h1, h2, h3⟩ := h
    exact ⟨g, us, rfl, by rw [World.putObj_heap_other (hb g rfl)]; exact h1, h2, fun j c u hc hu => ⟨(h3 j c u hc hu).1.shut hD, (h3 j c u hc hu).2⟩⟩
  | dict P t n m =>
    obtain ⟨b, k, e, E, rfl, h1, h2, h3, ⟨es, clock, q1, q2⟩, h5⟩ := h
    exact ⟨b, k, e, E, rfl, h1, h2, h3, ⟨es, clock, by rw [World.putObj_heap_other (hb b rfl)]; exact q1, q2⟩, h5⟩

theorem SimAt.shut {O : Nat → Prop} {θ : Nat → Option Value} {a : Act} {w : World} {d : Deferred} {ds : List Deferred} (hs : SimAt c s O θ a w) (hdf : a.defers = d :: ds) : ∃ D w', d.target = .collected D ∧ (Instr.takeDeferred D).run P w = .ok [] w' ∧ SimAt c s O θ { a with defers := ds } w' := by
  obtain ⟨D, rfl, hD, hOD, hw0⟩ := hs.marks d (by rw [hdf]; simp)
  refine ⟨D, w.putObj D (.deferred none), rfl, run_takeDeferred hD, ?_⟩
  have hmnd := hs.df
  rw [hdf] at hmnd
  have hlt : D < w.heap.size := by
    rcases Nat.lt_or_ge D w.heap.size with h1 | h1
    · exact h1
    · rw [Array.getElem?_eq_none h1] at hD; cases hD
  refine ⟨hs.size, (List.nodup_cons.1 hmnd).2, fun t x hx => (hs.fr t x hx).shut hD, fun id b hb => ?_, hs.inj, hs.dom, hs.flt, hs.one, fun g hg => by simpa using hs.olt g hg, ⟨hs.ext.os, hs.ext.tape, hs.ext.output, by simpa using hs.ext.size, fun b hb hL => ?_⟩, hs.xo, hs.xlt, hs.llt, fun d' hd' => ?_, hs.oc, hs.kp, ?_⟩
  · obtain ⟨v, hv, hbo, hgv⟩ := hs.hp id b hb
    exact ⟨v, hv, hbo.shut hD (fun g hg e => by obtain ⟨_, hh, ho⟩ := hbo.cells hg; rw [e, hD] at hh; cases hh; cases ho), fun g hgg => by simpa using hgv g hgg⟩
  · rw [World.putObj_heap_other (by omega)]; exact hs.ext.block b hb hL
  · obtain ⟨D', rfl, hD', hOD', h0⟩ := hs.marks d' (by rw [hdf]; exact List.mem_cons_of_mem _ hd')
    refine ⟨D', rfl, ?_, hOD', h0⟩
    rw [World.putObj_heap_other (fun e => ?_)]
    · exact hD'
    · subst e; exact (List.nodup_cons.1 hmnd).1 hd'
  · refine c.Jst hs.jn ⟨rfl, rfl, rfl, by simp, fun b hb hI => World.putObj_heap_other (fun e => by subst e; exact hI.elim (fun h => h (.inr (.inr ⟨_, by rw [hdf]; exact List.mem_cons_self, rfl⟩))) (fun h => h hOD)), fun g h => .inl h, fun g h _ => h, fun g hg => by simpa using hs.olt g hg, fun g hI => .inl ?_⟩
    rcases hI with hI | hI | ⟨d', h1, h2⟩
    · exact .inl hI
    · exact .inr (.inl hI)
    · exact .inr (.inr ⟨d', by rw [hdf]; exact List.mem_cons_of_mem _ h1, h2⟩)

/-- What the marks leave. -/
theorem leaves_marks {fn : Func} {R : Ending → World → Prop} {O : Nat → Prop} {θ : Nat → Option Value} : ∀ (ds : List Deferred) (a : Act) (w : World), a.defers = ds → SimAt c s O θ a w →
    (∀ (a' : Act) (w' : World), a'.tmps = a.tmps → SimAt c s O θ a' w' → ∃ v, (results fn a.tmps).run P w' = .ok v w' ∧ R (.returned v) w') → LeavesInM (FF none) 0 P fn a.tmps R a.defers .returning w
  | [], a, w, hdf, hs, h => by
    rw [hdf]
    exact h a w rfl hs
  | d :: ds, a, w, hdf, hs, h => by
    rw [hdf]
    obtain ⟨D, w', h1, h2, h3⟩ := hs.shut (P := P) hdf
    refine ⟨by simp, .inl ⟨D, w', h1, h2, ?_⟩⟩
    exact leaves_marks (fn := fn) (R := R) ds { a with defers := ds } w' rfl h3 (fun a' w'' e2 e3 => h a' w'' e2 e3)

theorem post_ret {fn : Func} {w0 : World} {O0 : Nat → Prop} {rvs : List ResultVar} {rs : List Res} {e : Exit} (hc : c = Fn.cx w0 O0) (hr : fn.results = rvs.toArray) (h : RVs P c s rvs rs) (he : e = .ret ∨ e = .normal) : Post c (FnPost P fn w0 O0 rs) e s := by
  rintro a w ⟨O, θ, hs⟩
  have key : LeavesInM (FF none) 0 P fn a.tmps (fun e w' => ∃ v O', e = .returned v ∧ w0.grownBy w' none ∧ (∀ g, O0 g → O' g) ∧ RetOk w' O' w0.heap.size rs v) a.defers .returning w := by
    refine leaves_marks a.defers a w rfl hs fun a' w' ht hs2 => ?_
    obtain ⟨us, h1, h2, h3⟩ := h.run hs2
    rw [ht] at h1
    refine ⟨_, run_results hr h1, _, O, rfl, ?_, ?_, ?_⟩
    · have he := hs2.ext
      subst hc
      exact ⟨he.os, he.tape, he.output, he.size, fun k hk _ => he.block k hk (fun h => h)⟩
    · subst hc; exact hs2.xo
    · subst hc
      match rs, us, h2, h3 with
      | [r], [u], _, h3 => exact h3 0 r u rfl rfl
      | [], [], _, h3 => exact ⟨#[], rfl, rfl, by simp⟩
      | r :: r' :: rs, u :: u' :: us, h2, h3 => exact ⟨_, rfl, by simpa using h2, fun i r u hr hu => h3 i r u hr (by simpa using hu)⟩
  rcases he with rfl | rfl
  · exact key
  · exact key

/-! ### Calls -/
def callB (P : Program) (f : Nat) : Bool := match P.funcs[f]? with | some fn => fn.body.isSome && !(fn.name == "runtime.NumGoroutine") | none => false
theorem callB_spec {f : Nat} (h : callB P f = true) (args : Array Value) (w : World) : (callFunc f args).run P w = .ok (.enter f args) w := by
  unfold callB at h
  split at h
  · rename_i fn hf
    simp only [Bool.and_eq_true, Bool.not_eq_true'] at h
    obtain ⟨h1, h2⟩ := h
    have h2' : ¬ fn.name = "runtime.NumGoroutine" := by simpa using h2
    simp [callFunc, hf, h2', Option.isSome_iff_ne_none.1 h1]
  · cases h

/-- The results as values of the activation: `k` names a row that comes to be the call's own. -/
def resAV (k : Nat) : Res → AV
  | .p p => .pv p
  | .own _ _ _ => .ls k
  | .clo f pre _ _ post => .fn f (pre.map .pv ++ (.lp k 0 :: post.map .pv))
def Res.isP : Res → Bool
  | .p _ => true
  | _ => false
def resTop (k : Nat) : List Res → AV
  | [r] => resAV k r
  | rs => .tup (rs.map (resAV k))
/-- What of the call's own a result is, if anything. -/
def Res.blk : Res → Option Blk
  | .p _ => none
  | .own e sz rows => some (.row e sz rows)
  | .clo _ _ t cells _ => some (.box t (cells.map .pv))
/-- The one row among the results, if there is one. -/
def oneOwn : List Res → Option (Option Blk)
  | [] => some none
  | .p _ :: rs => oneOwn rs
  | .own e sz rows :: rs => if rs.all Res.isP then some (some (.row e sz rows)) else none
  | .clo _ _ t cells _ :: rs => if rs.all Res.isP then some (some (.box t (cells.map .pv))) else none
def St.addRes (s : St) (kk : Nat) : Option Blk → St
  | none => s
  | some b => s.addAt kk none b

theorem isP_spec {r : Res} (h : r.isP = true) : ∃ p, r = .p p := by
  cases r with
  | p p => exact ⟨p, rfl⟩
  | _ => simp [Res.isP] at h
theorem oneOwn_none : ∀ {rs : List Res}, oneOwn rs = some none → ∀ r ∈ rs, ∃ p, r = .p p
  | [], _, r, h => by simp at h
  | .p p :: rs, h, r, hr => by
    rcases List.mem_cons.1 hr with e | e
    · exact ⟨p, e⟩
    · exact oneOwn_none (rs := rs) h r e
  | .own e sz rows :: rs, h, r, hr => by
    simp only [oneOwn] at h; split at h <;> cases h
  | .clo f pre t cells post :: rs, h, r, hr => by
    simp only [oneOwn] at h; split at h <;> cases h
theorem oneOwn_some : ∀ {rs : List Res} {b : Blk}, oneOwn rs = some (some b) → ∃ (i : Nat) (r0 : Res), rs[i]? = some r0 ∧ r0.blk = some b ∧ ∀ (j : Nat) (r : Res), rs[j]? = some r → j ≠ i → ∃ p, r = Res.p p
  | [], b, h => by simp [oneOwn] at h
  | .p p :: rs, b, h => by
    obtain ⟨i, r0, h1, h2, h3⟩ := oneOwn_some (rs := rs) h
    refine ⟨i + 1, r0, by simpa using h1, h2, fun j r hj hne => ?_⟩
    cases j with
    | zero => simp at hj; exact ⟨p, hj.symm⟩
    | succ j => exact h3 j r (by simpa using hj) (by omega)
  | .own e sz rows :: rs, b, h => by
    simp only [oneOwn] at h
    split at h
    · rename_i hall
      cases h
      refine ⟨0, _, rfl, rfl, fun j r hj hne => ?_⟩
      cases j with
      | zero => exact absurd rfl hne
      | succ j => exact isP_spec (List.all_eq_true.1 hall r (List.mem_of_getElem? (by simpa using hj)))
    · cases h
  | .clo f pre t cells post :: rs, b, h => by
    simp only [oneOwn] at h
    split at h
    · rename_i hall
      cases h
      refine ⟨0, _, rfl, rfl, fun j r hj hne => ?_⟩
      cases j with
      | zero => exact absurd rfl hne
      | succ j => exact isP_spec (List.all_eq_true.1 hall r (List.mem_of_getElem? (by simpa using hj)))
    · cases h
/-- A result that is the call's own, taken up under a name. -/
theorem ResOk.take {w : World} {O : Nat → Prop} {lo : Nat} {r : Res} {b : Blk} {u : Value} (kk : Nat) (h : ResOk w O lo r u) (hb : r.blk = some b) : ∃ vb, BlkOk w O (fun _ => none) vb b ∧ vb.oneCell' = true ∧ (∀ g, blkOf vb = some g → lo ≤ g ∧ g < w.heap.size ∧ O g) ∧
    ∀ (O2 : Nat → Prop) (θ2 : Nat → Option Value), θ2 kk = some vb → (∀ g, O2 g → O g) → RdA w O2 θ2 (resAV kk r) u := by
  cases r with
  | p p => cases hb
  | own e sz rows =>
    cases hb
    exact ⟨u, h.1, h.2.1, h.2.2, fun O2 θ2 h2 _ => .ls _ _ h2⟩
  | clo f pre t cells post =>
    cases hb
    obtain ⟨us, rfl, h1, h2, h3, g, h4, h5, h6, h7, h8⟩ := h
    refine ⟨_, h5, rfl, fun g' hg' => by cases hg'; exact ⟨h6, h7, h8⟩, fun O2 θ2 e hO => ?_⟩
    have mono : ∀ {p : PV} {v : Value}, Rd w O p v → Rd w O2 p v := fun h => h.mono (Nat.le_refl _) (fun b _ hn => ⟨fun h2 => hn (hO b h2), rfl⟩)
    refine .fn _ _ us (by simp [h1]; omega) fun i x u hx hu => ?_
    rw [List.getElem?_append] at hx
    split at hx
    · simp only [List.getElem?_map, Option.map_eq_some_iff] at hx
      obtain ⟨p, hp, rfl⟩ := hx
      exact .pv _ _ (mono (h2 i p u hp hu))
    · rename_i hi
      simp only [List.length_map] at hx hi
      rcases Nat.eq_or_lt_of_le (Nat.not_lt.1 hi) with e2 | e2
      · subst e2
        simp at hx; subst hx
        rw [h4] at hu; cases hu
        exact .lp _ _ g e
      · rw [show i - pre.length = (i - pre.length - 1) + 1 by omega, List.getElem?_cons_succ, List.getElem?_map, Option.map_eq_some_iff] at hx
        obtain ⟨p, hp, rfl⟩ := hx
        exact .pv _ _ (mono (h3 _ p u hp (by rw [show pre.length + 1 + (i - pre.length - 1) = i by omega]; exact hu)))

theorem ResOk.mono {w : World} {O O' : Nat → Prop} {lo : Nat} {p : PV} {v : Value} (h : ResOk w O lo (.p p) v) (hO : ∀ g, O' g → O g) : Rd w O' p v :=
  Rd.mono (Nat.le_refl _) (fun b _ hn => ⟨fun h2 => hn (hO b h2), rfl⟩) h

/-- What a call leaves: the results in the slot, a row of them as one's own. -/
theorem sim_of_ret (kk : Nat) (hk : freshB s kk = true) {O O' : Nat → Prop} {θ : Nat → Option Value} {a : Act} {w w' : World} (hs : SimAt c s O θ a w) (hg : w.grownBy w' none) (hO : ∀ g, O g → O' g) {rs : List Res} {v : Value} (hr : RetOk w' O' w.heap.size rs v) {ob : Option Blk} (hob : oneOwn rs = some ob) :
    ∃ O2 θ2, SimAt c (s.addRes kk ob) O2 θ2 a w' ∧ RdA w' O2 θ2 (resTop kk rs) v := by
  -- the claim for the components
  have comps : ∃ us : List Value, (∀ (i : Nat) (r : Res) (u : Value), rs[i]? = some r → us[i]? = some u → ResOk w' O' w.heap.size r u) ∧ us.length = rs.length ∧
      ∀ (O2 : Nat → Prop) (θ2 : Nat → Option Value), (∀ (i : Nat) (r : Res) (u : Value), rs[i]? = some r → us[i]? = some u → RdA w' O2 θ2 (resAV kk r) u) → RdA w' O2 θ2 (resTop kk rs) v := by
    match rs, hr with
    | [r], hr =>
      refine ⟨[v], fun i r' u h1 h2 => ?_, rfl, fun O2 θ2 h => h 0 r v rfl rfl⟩
      cases i with
      | zero => simp at h1 h2; subst h1; subst h2; exact hr
      | succ i => simp at h1
    | [], ⟨us, h1, h2, h3⟩ =>
      refine ⟨us.toList, by simp, by simpa using h2, fun O2 θ2 _ => ?_⟩
      subst h1
      exact .tup [] us (by simpa using h2) (by simp)
    | r :: r' :: rs, ⟨us, h1, h2, h3⟩ =>
      refine ⟨us.toList, fun i r u hr hu => h3 i r u hr (by simpa using hu), by simpa using h2, fun O2 θ2 h => ?_⟩
      subst h1
      refine .tup _ us (by simpa using h2) fun i x u hx hu => ?_
      have hx' : ((r :: r' :: rs).map (resAV kk))[i]? = some x := hx
      rw [List.getElem?_map, Option.map_eq_some_iff] at hx'
      obtain ⟨r0, hr0, rfl⟩ := hx'
      exact h i r0 u hr0 (by simpa using hu)
  obtain ⟨us, hus, hlen, htop⟩ := comps
  cases ob with
  | none =>
    refine ⟨O, θ, hs.grownNone hg, htop O θ fun i r u h1 h2 => ?_⟩
    obtain ⟨p, rfl⟩ := oneOwn_none hob r (List.mem_of_getElem? h1)
    exact .pv _ _ ((hus i _ u h1 h2).mono hO)
  | some b =>
    obtain ⟨i, r0, h1, hb0, h3⟩ := oneOwn_some hob
    have hi : i < us.length := by rw [hlen]; exact (List.getElem?_eq_some_iff.1 h1).1
    have hu : us[i]? = some us[i] := List.getElem?_eq_getElem hi
    obtain ⟨vb, k1, k2, k3, k4⟩ := (hus i _ _ h1 hu).take kk hb0
    have hO2 : ∀ g, O g ∨ blkOf vb = some g → O' g := fun g h => h.elim (hO g) (fun h => (k3 g h).2.2)
    obtain ⟨O2, θ2, m1, m2, m3, m4⟩ := hs.addAt (w' := w') (row := none) (v := vb) (b := b) kk hk none (by simp) (fun _ => rfl) hg (fun g hgg => ⟨(k3 g hgg).2.1, .inl (k3 g hgg).1⟩) k2 (fun O2 θ2 hO2' _ =>
      k1.mono (Nat.le_refl _) (fun b _ hn => ⟨fun h2 => hn (hO2 b ((hO2' b).1 h2)), rfl⟩) (fun _ _ h => by cases h) (fun _ _ => rfl))
    refine ⟨O2, θ2, m4, htop O2 θ2 fun j r u h4 h5 => ?_⟩
    by_cases hji : j = i
    · subst hji
      rw [h1] at h4; cases h4
      rw [hu] at h5; cases h5
      exact k4 O2 θ2 m3 (fun g hgg => hO2 g ((m1 g).1 hgg))
    · obtain ⟨p, rfl⟩ := h3 j r h4 hji
      exact .pv _ _ ((hus j _ u h4 h5).mono fun g hgg => hO2 g ((m1 g).1 hgg))

theorem op_call (kk : Nat) (hk : freshB s kk = true) {fo : Operand} {xs : List Operand} {ts : Array TypeId} {f : Nat} {caps : List PV} {args : List PV} {rs : List Res} {ob : Option Blk} (ho : o.op = .call { callee := .value fo, args := xs.toArray, argTypes := ts }) (hf : ev s fo = some (.pv (.fn f caps))) (hx : evl s xs = some (args.map .pv)) (hB : callB P f = true)
    (h : Fn P f (args ++ caps) rs) (hob : oneOwn rs = some ob) (hd : o.dst = d) (hn : dOk s d = true) : OpOk ro P c o s ((s.addRes kk ob).put d (some (resTop kk rs))) := by
  rintro a w ⟨O, θ, hs⟩ K Q hK
  obtain ⟨e1, e2⟩ := evl_ok hs hx
  have hfv := ev_pv hs hf
  generalize hfa : a.eval fo = fv at hfv
  cases hfv with
  | fn _ _ us hn' hh =>
    refine ⟨fun f _ => trivial, ?_⟩
    have hrun : (execOp a.eval o).run P w = .ok (.enter f ((xs.map a.eval).toArray ++ us)) w := by
      simp [execOp, ho, resolve, Deferred.ofValue, hfa, invoke, callB_spec hB]
    rw [Oper.semAt_plain _ _ _ (by rw [ho]; intro k h; cases h), hrun]
    refine ⟨fun h => by simp [FF, Fence.wide] at h, ?_⟩
    have hcall := h w O ((xs.map a.eval).toArray ++ us) hs.olt (by have := e1; simp at this; simp [hn', this]) (fun i p v hp hv => by
      rw [List.getElem?_append] at hp
      have hl : xs.length = args.length := by simpa using e1
      split at hp
      · rename_i hi
        rw [Array.getElem?_append_left (by simp; omega)] at hv
        have := e2 i (.pv p) v (by rw [List.getElem?_map, hp]; rfl) (by simpa using hv)
        exact rda_pv this
      · rename_i hi
        rw [Array.getElem?_append_right (by simp; omega)] at hv
        exact hh _ p v hp (by simpa [hl] using hv))
    refine CallsIn.mono (callsIn_wide (n := 0 - 1).2 hcall) ?_
    rintro e w' ⟨v, O', rfl, hg, hO, hr⟩
    obtain ⟨O2, θ2, g1, g2⟩ := sim_of_ret kk hk hs hg hO hr hob
    subst hd
    refine hK _ _ ⟨O2, θ2, g1.put _ _ _ ?_ ?_ g2⟩
    · intro t ht
      have : (s.addRes kk ob).n = s.n := by cases ob <;> rfl
      rw [this]
      exact dOk_lt hn t ht
    · intro t ht
      have : (s.addRes kk ob).kt = s.kt := by cases ob <;> rfl
      rw [this]
      exact dOk_kt hn t ht

/-- Views of several values. -/
def viewArgs (fz : List (Nat × Option Blk)) : List AV → Option (List PV)
  | [] => some []
  | x :: l => match viewPV fz x, viewArgs fz l with
    | some p, some ps => some (p :: ps)
    | _, _ => none
theorem viewArgs_get {fz : List (Nat × Option Blk)} : ∀ {xs : List AV} {ps : List PV}, viewArgs fz xs = some ps → xs.length = ps.length ∧ ∀ (i : Nat) (x : AV) (p : PV), xs[i]? = some x → ps[i]? = some p → viewPV fz x = some p
  | [], ps, h => by simp [viewArgs] at h; subst h; simp
  | x :: l, ps, h => by
    simp only [viewArgs] at h
    split at h
    · rename_i p qs hp hq
      cases h
      obtain ⟨h1, h2⟩ := viewArgs_get hq
      refine ⟨by simp [h1], fun i y q hy hq' => ?_⟩
      cases i with
      | zero => simp at hy hq'; subst hy; subst hq'; exact hp
      | succ i => exact h2 i y q (by simpa using hy) (by simpa using hq')
    · cases h

/-- Nothing that lies in memory. -/
def PV.flat : PV → Bool
  | .int _ _ => true
  | .bool _ => true
  | .str _ => true
  | .nilp => true
  | .nils => true
  | .nilf => true
  | .agg cs => cs.all fun
    | .int _ _ => true
    | .bool _ => true
    | .str _ => true
    | .nilp => true
    | .nils => true
    | .nilf => true
    | _ => false
  | .vs _ _ => false
  | .vp _ => false
  | .fn _ _ => false
  | .yld _ => false
theorem Rd.flat {w : World} {O O' : Nat → Prop} {p : PV} {v : Value} (h : Rd w O p v) (hp : p.flat = true) : Rd w O' p v := by
  cases h with
  | int k n => exact .int k n
  | bool b => exact .bool b
  | str l => exact .str l
  | nilp => exact .nilp
  | nils => exact .nils
  | nilf => exact .nilf
  | agg cs us h1 h2 h3 =>
    refine .agg cs us h1 h2 fun i x u hx hu => ?_
    have h4 := h3 i x u hx hu
    have h5 := List.all_eq_true.1 hp x (List.mem_of_getElem? hx)
    cases h4 with
    | int k n => exact .int k n
    | bool b => exact .bool b
    | str l => exact .str l
    | nilp => exact .nilp
    | nils => exact .nils
    | nilf => exact .nilf
    | _ => simp at h5
  | _ => simp [PV.flat] at hp

def Res.flat : Res → Bool
  | .p q => q.flat
  | _ => false
/-- A call that is handed what is the caller's own, to be read: it hands back nothing that lies in memory. -/
theorem op_callB (kk : Nat) (hk : freshB s kk = true) {fo : Operand} {xs : List Operand} {ts : Array TypeId} {f : Nat} {fa : AV} {caps : List PV} {as : List AV} {args : List PV} {rs : List Res} (fz : List (Nat × Option Blk)) (ho : o.op = .call { callee := .value fo, args := xs.toArray, argTypes := ts }) (hf : ev s fo = some fa) (hx : evl s xs = some as)
    (hfz : ∀ x ∈ fz, ∃ b, x.2 = some b ∧ look x.1 s.hp = some b) (hvf : viewPV fz fa = some (.fn f caps)) (hva : viewArgs fz as = some args) (hB : callB P f = true)
    (h : Fn P f (args ++ caps) rs) (hflat : (rs.all Res.flat) = true) (hd : o.dst = d) (hn : dOk s d = true) : OpOk ro P c o s (s.put d (some (resTop kk rs))) := by
  rintro a w ⟨O, θ, hs⟩ K Q hK
  have hfz' : ∀ id b, look id fz = some b → look id s.hp = some b := by
    intro id b hl
    obtain ⟨b', h1, h2⟩ := hfz _ (look_mem hl)
    cases h1; exact h2
  obtain ⟨e1, e2⟩ := evl_ok hs hx
  obtain ⟨e3, e4⟩ := viewArgs_get hva
  have hfv := view_ok (O2 := fun _ => False) hs hfz' (fun g h => h.elim) (fun _ _ _ _ _ _ _ h => h) hvf (ev_ok hs hf)
  generalize hfa : a.eval fo = fv at hfv
  cases hfv with
  | fn _ _ us hn' hh =>
    refine ⟨fun f _ => trivial, ?_⟩
    have hrun : (execOp a.eval o).run P w = .ok (.enter f ((xs.map a.eval).toArray ++ us)) w := by
      simp [execOp, ho, resolve, Deferred.ofValue, hfa, invoke, callB_spec hB]
    rw [Oper.semAt_plain _ _ _ (by rw [ho]; intro k h; cases h), hrun]
    refine ⟨fun h => by simp [FF, Fence.wide] at h, ?_⟩
    have hcall := h w (fun _ => False) ((xs.map a.eval).toArray ++ us) (fun _ h => h.elim) (by simp [hn']; omega) (fun i p v hp hv => by
      rw [List.getElem?_append] at hp
      split at hp
      · rename_i hi
        rw [Array.getElem?_append_left (by simp; omega)] at hv
        have hi' : i < as.length := by omega
        exact view_ok (O2 := fun _ => False) hs hfz' (fun g h => h.elim) (fun _ _ _ _ _ _ _ h => h) (e4 i as[i] p (List.getElem?_eq_getElem hi') hp) (e2 i as[i] v (List.getElem?_eq_getElem hi') (by simpa using hv))
      · rename_i hi
        rw [Array.getElem?_append_right (by simp; omega)] at hv
        exact hh _ p v hp (by
          have : xs.length = args.length := by omega
          simpa [this] using hv))
    refine CallsIn.mono (callsIn_wide (n := 0 - 1).2 hcall) ?_
    rintro e w' ⟨v, O', rfl, hg, _, hr⟩
    have hall : ∀ r ∈ rs, ∃ p, r = .p p ∧ p.flat = true := by
      intro r hr
      have := List.all_eq_true.1 hflat r hr
      cases r with
      | p p => exact ⟨p, rfl, this⟩
      | _ => simp [Res.flat] at this
    have hob : oneOwn rs = some none := by
      have : ∀ rs : List Res, (∀ r ∈ rs, ∃ p, r = .p p ∧ p.flat = true) → oneOwn rs = some none := by
        intro rs
        induction rs with
        | nil => intro _; rfl
        | cons r rs ih =>
          intro h
          obtain ⟨p, rfl, _⟩ := h r (by simp)
          exact ih fun r hr => h r (by simp [hr])
      exact this rs hall
    have hr' : RetOk w' O w.heap.size rs v := by
      unfold RetOk at hr ⊢
      split at hr
      · rename_i r
        obtain ⟨p, rfl, hp⟩ := hall r (by simp)
        exact Rd.flat hr hp
      · obtain ⟨us, h1, h2, h3⟩ := hr
        refine ⟨us, h1, h2, fun i r u hr hu => ?_⟩
        obtain ⟨p, rfl, hp⟩ := hall r (List.mem_of_getElem? hr)
        exact Rd.flat (h3 i _ u hr hu) hp
    obtain ⟨O2, θ2, g1, g2⟩ := sim_of_ret kk hk hs hg (fun _ h => h) hr' hob
    subst hd
    exact hK _ _ ⟨O2, θ2, g1.put _ _ _ (dOk_lt hn) (dOk_kt hn) g2⟩
end
end Go.Abs
