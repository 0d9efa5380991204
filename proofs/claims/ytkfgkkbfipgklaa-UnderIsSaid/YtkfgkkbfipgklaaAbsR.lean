/- The abstract layer that the proof stands on: no condition. -/
import Derived.Test.YtkfgkkbfipgklaaAbsQ
/- A law's row, out of its contract. -/
namespace Go.Abs
open Go.ChangeShapes Go.WideShapes Go.ChangeAt Go.RowKit

section
variable {H : Type} {enc : TypeId × Value → H} {P : Program}

def readB (P : Program) (ts : List TypeId) : Bool := ts.all fun t => P.readableRec t && decide (t < P.types.size)

theorem trodAll_carry (hl : laidOutB P = true) {W W' : World} (hb : Below W.heap.size W W') : ∀ {ts : List TypeId} {vs : List Value} {ds : List (DataW H)} {ps : List MemPlace}, readB P ts = true → DataW.TrodAll enc P W 0 (fun _ => true) true ts vs ds ps → (∀ x ∈ ps, x.block < W.heap.size) →
    DataW.TrodAll enc P W' 0 (fun b => decide (b < W.heap.size)) true ts vs ds ps
  | [], vs, ds, ps, _, h, _ => by
    obtain ⟨rfl, rfl, rfl⟩ := trodAll_nil h
    rfl
  | t :: ts, vs, ds, ps, hr, h, hlt => by
    obtain ⟨v, vs', d, ds', p, q, rfl, rfl, rfl, h1, h2⟩ := trodAll_cons h
    unfold readB at hr
    rw [List.all_cons] at hr
    simp only [Bool.and_eq_true, decide_eq_true_eq] at hr
    exact ⟨p, q, Below.trod hl hr.1.1 hr.1.2 h1 hb (fun x hx => hlt x (by simp [hx])), trodAll_carry hl hb (by unfold readB; exact hr.2) h2 (fun x hx => hlt x (by simp [hx])), rfl⟩

theorem law_post {f : Func} {s : ChangeSpec} {apart fresh handsOn : Bool} {W W' : World} {args : Array Value} {ds : List (DataW H)} {ps : List MemPlace} {B : TypeId} (hl : laidOutB P = true) (hr : readB P f.params.toList = true) (hvars : s.vars = [])
    (hW : DataW.Whole enc P f.params.toList s.vars apart W args.toList ds [] ps) (hA : DataW.TrodAll enc P W 0 (fun _ => true) true f.params.toList args.toList ds ps) (hg : W.grownBy W' none) (hres : f.resultTypes = #[B]) (hB : P.underlying B = some .bool)
    (hs : s.fn H ds = { results := [.lit (.bool true)], args := ds }) : s.post enc P f apart fresh handsOn false W args (.bool true) W' := by
  have hb : Below W.heap.size W W' := (Below.refl _ W).grown hg (Nat.le_refl _) (by simp)
  have hlt : ∀ x ∈ ps, x.block < W.heap.size := fun x hx => by simpa using hW.lt x hx
  refine ⟨ds, [], ps, [], ps, [], hW, ?_, ?_, ?_, hb.frame _, fun h => by cases h⟩
  · rw [List.append_nil, hs, hres]
    exact trodAll_mk1 (shut_bool hB true)
  · rw [List.append_nil, hs]
    exact trodAll_carry hl hb hr hA hlt
  · rw [List.append_nil, hs, hvars]
    rfl

/-- What the arguments read as. -/
def ArgsRd (W : World) (as : List PV) (args : Array Value) : Prop := args.size = as.length ∧ ∀ (i : Nat) (p : PV) (v : Value), as[i]? = some p → args[i]? = some v → Rd W (fun _ => False) p v

theorem law_lifted {C : Checked} {os : Os} {f : FuncId} {fn : Func} {s : ChangeSpec} {B : TypeId} {fresh handsOn : Bool}
    (own : ownKnob C.prog.godebug = none) (started : os.Started) (noInit : C.prog.inits.idxOf? f = none) (hfn : C.prog.funcs[f]? = some fn)
    (witness : ∃ (w : World) (tape : Tape) (i : Input), w.os = os ∧ (w.forCall tape i).Shaped C.prog ∧ i.vars = [] ∧ Input.okWide C.prog (w.forCall tape i) .any w.heap.size f i ∧
      s.pre6 enc C.prog fn [] false (w.forCall tape i).memory i.args ∧ ({} : Assume).holds C.prog (lone (Frame.enter C.prog f i.args .normal) [] (w.forCall tape i)))
    (hl : laidOutB C.prog = true) (hr : readB C.prog fn.params.toList = true) (hvars : s.vars = []) (hres : fn.resultTypes = #[B]) (hB : C.prog.underlying B = some .bool)
    (hs : ∀ ds : List (DataW H), ds.length = fn.params.size → s.fn H ds = { results := [.lit (.bool true)], args := ds })
    (hcall : ∀ (W : World) (base : Nat) (args : Array Value) (ds : List (DataW H)) (ps : List MemPlace), (∀ (j : Nat) t v, fn.params[j]? = some t → args[j]? = some v → Value.okWide C.prog W .any base t v) → DataW.TrodAll enc C.prog W 0 (fun _ => true) true fn.params.toList args.toList ds ps → ∃ as : List PV, ArgsRd W as args ∧ Fn C.prog f as [.p (.bool true)]) :
    ReturnsInHanded {} C os f .any (s.pre6 enc C.prog fn [] false) (s.post enc C.prog fn false fresh handsOn false) := by
  refine returnsInHanded_of_change own started noInit hfn witness ?_
  intro W base args ds gs before hval hW _ _
  have hW' := hW
  obtain ⟨p, q, hA, hV, rfl, hfz, hnd⟩ := hW
  have hV' : gs = [] ∧ q = [] := by rw [hvars] at hV; exact trodVars_none hV
  obtain ⟨rfl, rfl⟩ := hV'
  obtain ⟨as, ⟨h1, h2⟩, h3⟩ := hcall W base args ds p hval hA
  refine (h3 W (fun _ => False) args (fun _ h => h.elim) h1 h2).mono ?_
  rintro e W' ⟨v, O', rfl, hg, _, hrt⟩
  have hv : v = .bool true := by
    have : Rd W' O' (.bool true) v := hrt
    cases this; rfl
  subst hv
  have hlen : ∀ {ts : List TypeId} {vs : List Value} {ds : List (DataW H)} {ps : List MemPlace}, DataW.TrodAll enc C.prog W 0 (fun _ => true) true ts vs ds ps → ds.length = ts.length := by
    intro ts
    induction ts with
    | nil => intro vs ds ps h; obtain ⟨_, rfl, _⟩ := trodAll_nil h; rfl
    | cons t ts ih => intro vs ds ps h; obtain ⟨v, vs', d, ds', p, q, rfl, rfl, rfl, h1, h2⟩ := trodAll_cons h; simp [ih h2]
  exact ⟨_, rfl, law_post hl hr hvars (by rw [List.append_nil] at hW'; rw [List.append_nil] at *; exact hW') hA hg hres hB (hs ds (by rw [hlen hA]; simp))⟩
end

/-- Two arguments, three, ..: what they read as. -/
theorem argsRd_nil {W : World} : ArgsRd W [] #[] := ⟨rfl, fun i p v h => by simp at h⟩
theorem argsRd_of {W : World} : ∀ {as : List PV} {vs : List Value}, (∀ (i : Nat) (p : PV) (v : Value), as[i]? = some p → vs[i]? = some v → Rd W (fun _ => False) p v) → vs.length = as.length → ArgsRd W as vs.toArray :=
  fun h hl => ⟨by simpa using hl, fun i p v hp hv => h i p v hp (by simpa using hv)⟩
def RdAll (W : World) : List PV → List Value → Prop
  | [], [] => True
  | p :: ps, v :: vs => Rd W (fun _ => False) p v ∧ RdAll W ps vs
  | _, _ => False
theorem RdAll.args {W : World} : ∀ {as : List PV} {vs : List Value}, RdAll W as vs → vs.length = as.length ∧ ∀ (i : Nat) (p : PV) (v : Value), as[i]? = some p → vs[i]? = some v → Rd W (fun _ => False) p v
  | [], [], _ => ⟨rfl, fun i p v h => by simp at h⟩
  | p :: ps, v :: vs, h => by
    obtain ⟨h1, h2⟩ := h.2.args
    refine ⟨by simp [h1], fun i q u hq hu => ?_⟩
    cases i with
    | zero => simp at hq hu; subst hq; subst hu; exact h.1
    | succ i => exact h2 i q u (by simpa using hq) (by simpa using hu)
  | [], _ :: _, h | _ :: _, [], h => by simp [RdAll] at h
theorem argsRd_all {W : World} {xs : List PV} {args : Array Value} (h : RdAll W xs args.toList) : ArgsRd W xs args := by
  obtain ⟨h1, h2⟩ := h.args
  exact ⟨by simpa using h1, fun i p v hp hv => h2 i p v hp (by simpa using hv)⟩

/-- A value of one cell, out of its cells. -/
def oneT (P : Program) (T : TypeId) : Bool := match P.underlying T with
  | some .bool | some (.int _) | some .string | some (.slice _) => true
  | _ => false
theorem arg_one {W : World} {P : Program} {base : Nat} {T : TypeId} {v : Value} {p : PV} (h : Reads1 W (fun _ => False) v.cells.toList [p]) (hv : Value.okWide P W .any base T v) (ht : oneT P T = true) : Rd W (fun _ => False) p v := by
  have : v.cells.toList = [v] := by
    unfold oneT at ht
    unfold Value.okWide at hv
    split at hv
    · rename_i hu; rw [hu] at ht; cases ht
    · rename_i hu; rw [hu] at ht; cases ht
    · unfold Cell.okWide at hv
      cases v <;> first | rfl | skip
      all_goals
        exfalso
        revert hv
        split <;> simp_all [Cell.ok]
        try (split <;> simp_all)
  rw [this] at h
  exact h.2.2 0 p v rfl rfl
/-- A struct or array, out of its cells. -/
def aggT (P : Program) (T : TypeId) : Bool := match P.underlying T with
  | some (.struct _) | some (.array _ _) => true
  | _ => false
theorem arg_agg {W : World} {P : Program} {base : Nat} {T : TypeId} {v : Value} {ps : List PV} (h : Reads1 W (fun _ => False) v.cells.toList ps) (hv : Value.okWide P W .any base T v) (ht : aggT P T = true) : Rd W (fun _ => False) (.agg ps) v := by
  have : ∃ cs, v = .agg cs := by
    unfold aggT at ht
    unfold Value.okWide at hv
    split at hv
    · obtain ⟨cs, h, _⟩ := hv; exact ⟨cs, h⟩
    · obtain ⟨cs, h, _⟩ := hv; exact ⟨cs, h⟩
    · rename_i h1 h2
      split at ht
      · rename_i hu; exact absurd hu (h1 _)
      · rename_i hu; exact absurd hu (h2 _ _)
      · cases ht
  obtain ⟨cs, rfl⟩ := this
  have := rd_of_reads1 h
  simpa [Value.cells] using this
end Go.Abs
