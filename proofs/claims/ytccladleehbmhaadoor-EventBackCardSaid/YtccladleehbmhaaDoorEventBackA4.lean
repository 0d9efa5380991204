/- The abstract layer that the proof stands on: no condition. -/
import Derived.Test.YtccladleehbmhaaDoorEventBackA3
import Derived.LaidMore
import Derived.Stop.Joined
/- A law's row whose package variables are listed, out of its contract. -/
namespace Go.Abs
variable {G : List (Nat × List PV)}
open Go.ChangeShapes Go.WideShapes Go.ChangeAt Go.RowKit

section
variable {P : Program} {w : World}
/-- What reads as `d` at type `T` is `row`. -/
def ReadsD (P : Program) (w : World) (T : TypeId) (d : DataW Unit) (row : List PV) : Prop :=
  ∀ (fuel : Nat) (cs : List Value) (ps : List MemPlace), DataW.trod (fun _ => ()) P w 0 (fun _ => true) false fuel T cs = some (d, ps) → Reads1 w (fun _ => False) cs row
theorem rdD_str {T : TypeId} (h : P.underlying T = some .string) (s : List UInt8) : ReadsD P w T (.lit (.string s)) [.str s] := fun fuel cs ps hx => by
  obtain ⟨b, rfl, he, _⟩ := DataW.trod_string h hx
  simp only [Prod.mk.injEq, DataW.lit.injEq, Lit.string.injEq] at he
  obtain ⟨rfl, _⟩ := he
  refine reads1_one ?_ rfl
  have := Rd.str (w := w) (O := fun _ => False) b.data.toList
  simpa using this
theorem rdD_int {T : TypeId} {k : IntKind} (h : P.underlying T = some (.int k)) (n : Int) : ReadsD P w T (.lit (.int k n)) [.int k n] := fun fuel cs ps hx => by
  obtain ⟨m, rfl, he, _⟩ := DataW.trod_int h hx
  simp only [Prod.mk.injEq, DataW.lit.injEq, Lit.int.injEq, true_and] at he
  obtain ⟨rfl, _⟩ := he
  exact reads1_one (.int k n) rfl
/-- The parts of an array, one by one. -/
def ReadsAll (P : Program) (w : World) (E : TypeId) : List (DataW Unit) → List (List PV) → Prop
  | [], [] => True
  | d :: ds, r :: rs => ReadsD P w E d r ∧ ReadsAll P w E ds rs
  | _, _ => False
theorem reads_flat {E sz : Nat} (cs : List Value) : ∀ (ds : List (DataW Unit)) (rs : List (List PV)) (k : Nat), ReadsAll P w E ds rs → (∀ r ∈ rs, r.length = sz) → cs.length = (k + ds.length) * sz →
    (∀ i d, ds[i]? = some d → ∃ m ps, DataW.trod (fun _ => ()) P w 0 (fun _ => true) false m E ((cs.drop ((k + i) * sz)).take sz) = some (d, ps)) → Reads1 w (fun _ => False) (cs.drop (k * sz)) rs.flatten
  | [], [], k, _, _, hl, _ => by simpa using reads_nil (w := w) (cs := cs) (off := k * sz) (by simpa using hl)
  | d :: ds, r :: rs, k, h, hz, hl, hp => by
    rw [List.flatten_cons]
    refine reads_cons (sz := sz) ?_ (hz r (by simp)) ?_
    · obtain ⟨m, ps, h0⟩ := hp 0 d rfl
      exact h.1 m _ ps (by simpa using h0)
    · have e : k * sz + sz = (k + 1) * sz := by rw [Nat.add_mul]; omega
      rw [e]
      refine reads_flat cs ds rs (k + 1) h.2 (fun r hr => hz r (by simp [hr])) (by rw [hl]; simp only [List.length_cons]; congr 1; omega) fun i d hi => ?_
      have := hp (i + 1) d (by simpa using hi)
      rw [show k + (i + 1) = k + 1 + i by omega] at this
      exact this
  | [], _ :: _, _, h, _, _, _ | _ :: _, [], _, h, _, _, _ => by simp [ReadsAll] at h
theorem rdD_array {T E n sz : Nat} {ds : List (DataW Unit)} {rs : List (List PV)} (h : arrB P T n E sz = true) (hn : ds.length = n) (hz : ∀ r ∈ rs, r.length = sz) (hd : ReadsAll P w E ds rs) : ReadsD P w T (.agg ds) rs.flatten := fun fuel cs ps hx => by
  unfold arrB at h
  split at h
  · rename_i m e hu
    simp only [Bool.and_eq_true, beq_iff_eq] at h
    obtain ⟨⟨rfl, rfl⟩, rfl, h4⟩ := h
    obtain ⟨xs, m', hf, he, hl, hxs, hp⟩ := DataW.trod_array hu hx
    simp only [Prod.mk.injEq, DataW.agg.injEq] at he
    obtain ⟨rfl, _⟩ := he
    have := reads_flat (sz := P.cellsOf e) cs (xs.map (·.1)) rs 0 hd hz (by rw [hl, h4]; simp [hxs]) fun i d hi => by
      rw [List.getElem?_map, Option.map_eq_some_iff] at hi
      obtain ⟨x, hx, rfl⟩ := hi
      have hlt : i < m := by rw [← hxs]; exact (List.getElem?_eq_some_iff.1 hx).1
      refine ⟨m', x.2, ?_⟩
      have := hp i hlt
      rw [hx] at this
      rw [Nat.zero_add]
      exact this
    simpa using this
  · cases h
theorem readsAll_ints {E : TypeId} {k : IntKind} (h : P.underlying E = some (.int k)) : ∀ l : List Int, ReadsAll P w E (l.map fun n => .lit (.int k n)) (l.map fun n => [.int k n])
  | [] => trivial
  | n :: l => ⟨rdD_int h n, readsAll_ints h l⟩
/-- An array of numbers. -/
theorem rdD_ints {T E n : Nat} {k : IntKind} {ds : List (DataW Unit)} {rs : List PV} (l : List Int) (h : arrB P T n E 1 = true) (hE : P.underlying E = some (.int k)) (hn : l.length = n) (hds : ds = l.map fun n => .lit (.int k n))
    (hrs : rs = l.map (.int k)) : ReadsD P w T (.agg ds) rs := by
  have e : (l.map fun n => [PV.int k n]).flatten = l.map (.int k) := by
    clear hn hds hrs
    induction l with
    | nil => rfl
    | cons n l ih => simp only [List.map_cons, List.flatten_cons, ih]; rfl
  subst hds
  rw [hrs, ← e]
  exact rdD_array h (by simpa using hn) (fun r hr => by obtain ⟨n, _, rfl⟩ := List.mem_map.1 hr; rfl) (readsAll_ints hE l)
/-- A listed variable's block. -/
theorem glob_rd {name : String} {g T : Nat} {d : DataW Unit} {row : List PV} (hg : P.globalNamed name = some g) (hT : (P.globals[g]?).map (·.type) = some T) (hd : ReadsD P w T d row)
    (h : ∃ g t cs fuel p, P.globalNamed name = some g ∧ (P.globals[g]?).map (·.type) = some t ∧ w.var? P name = some cs ∧ DataW.trod (fun _ => ()) P w 0 (fun _ => true) false fuel t cs.toList = some (d, p)) (h0 : 0 < row.length) :
    Rd w (fun _ => False) (.vp row) (.pointer (some ⟨g, 0, none⟩)) := by
  obtain ⟨g', t', cs, fuel, p, h1, h2, h3, h4⟩ := h
  obtain rfl : g = g' := Option.some.inj (hg.symm.trans h1)
  obtain rfl : T = t' := Option.some.inj (hT.symm.trans h2)
  obtain ⟨r1, r2, r3⟩ := hd fuel _ _ h4
  have hcell : ∀ i, w.cell? ⟨g, i, none⟩ = cs[i]? := World.var?_cell hg h3
  have hsz : cs.size = row.length := by simpa using r1
  have hb : g < w.heap.size := by
    rcases Nat.lt_or_ge g w.heap.size with h7 | h7
    · exact h7
    · have := hcell 0
      rw [Array.getElem?_eq_getElem (by omega)] at this
      simp [World.cell?, Array.getElem?_eq_none h7] at this
  refine .vp row g 0 (fun k => cs.getD k undef) (fun h => h) hb r2 (fun k hk => ?_) (fun j q hq => ?_)
  · rw [Nat.zero_add, hcell, Array.getElem?_eq_getElem (by omega)]
    simp [show k < cs.size by omega]
  · have hj : j < row.length := (List.getElem?_eq_some_iff.1 hq).1
    refine r3 j q _ hq ?_
    rw [Array.getElem?_toList, Array.getElem?_eq_getElem (by omega)]
    simp [show j < cs.size by omega]
/-- One of the listed variables. -/
theorem laid_at {laid : List (String × DataW Unit)} {ps : List MemPlace} (h : DataW.LaidVars P w laid ps) : ∀ x ∈ laid, ∃ g t cs fuel p, P.globalNamed x.1 = some g ∧ (P.globals[g]?).map (·.type) = some t ∧ w.var? P x.1 = some cs ∧ DataW.trod (fun _ => ()) P w 0 (fun _ => true) false fuel t cs.toList = some (x.2, p) := by
  induction laid generalizing ps with
  | nil => intro x hx; cases hx
  | cons y l ih =>
    intro x hx
    obtain ⟨g, t, cs, fuel, p, q, h1, h2, h3, h4, h5, _⟩ := h
    rcases List.mem_cons.1 hx with rfl | hx
    · exact ⟨g, t, cs, fuel, p, h1, h2, h3, h4⟩
    · exact ih h5 x hx
theorem laid_atH {laid : List (String × DataW Unit)} (hp : (laid.all fun x => x.2.handleName?.isNone) = true) (h : laidMetH P laid w) : ∀ x ∈ laid, ∃ g t cs fuel p, P.globalNamed x.1 = some g ∧ (P.globals[g]?).map (·.type) = some t ∧ w.var? P x.1 = some cs ∧ DataW.trod (fun _ => ()) P w 0 (fun _ => true) false fuel t cs.toList = some (x.2, p) := by
  rw [MakeChecks.laidMetH_plain _ _ _ hp] at h
  obtain ⟨ps, h, _⟩ := h
  exact laid_at h
end

section
variable {H : Type} {enc : TypeId × Value → H} {P : Program}
theorem law_lifted_laid {C : Checked} {os : Os} {f : FuncId} {fn : Func} {s : ChangeSpec} {B : TypeId} {fresh handsOn : Bool} {L : List (String × DataW Unit)}
    (own : ownKnob C.prog.godebug = none) (started : os.Started) (noInit : C.prog.inits.idxOf? f = none) (hfn : C.prog.funcs[f]? = some fn)
    (witness : ∃ (w : World) (tape : Tape) (i : Input), w.os = os ∧ (w.forCall tape i).Shaped C.prog ∧ i.vars = [] ∧ Input.okWide C.prog (w.forCall tape i) .any w.heap.size f i ∧
      ((s.pre enc C.prog fn [] false (w.forCall tape i).memory i.args ∧ laidMetH C.prog L (w.forCall tape i).memory) ∧ sizedMet enc C.prog fn (OpenSpec.ofChange s) false (w.forCall tape i).memory i.args) ∧ ({} : Assume).holds C.prog (lone (Frame.enter C.prog f i.args .normal) [] (w.forCall tape i)))
    (hl : laidOutB C.prog = true) (hr : readB C.prog fn.params.toList = true) (hvars : s.vars = []) (hres : fn.resultTypes = #[B]) (hB : C.prog.underlying B = some .bool)
    (hs : ∀ ds : List (DataW H), ds.length = fn.params.size → s.fn H ds = { results := [.lit (.bool true)], args := ds })
    (hGL : ∀ W : World, laidMetH C.prog L W → GlobOk G W (fun _ => False))
    (hcall : ∀ (W : World) (base : Nat) (args : Array Value) (ds : List (DataW H)) (ps : List MemPlace), (∀ (j : Nat) t v, fn.params[j]? = some t → args[j]? = some v → Value.okWide C.prog W .any base t v) → DataW.TrodAll enc C.prog W 0 (fun _ => true) true fn.params.toList args.toList ds ps → ∃ asx : List PV, ArgsRd W asx args ∧ Fn G C.prog f asx [.p (.bool true)]) :
    ReturnsInHanded {} C os f .any (fun w args => (s.pre enc C.prog fn [] false w args ∧ laidMetH C.prog L w) ∧ sizedMet enc C.prog fn (OpenSpec.ofChange s) false w args) (s.post enc C.prog fn false fresh handsOn false) := by
  refine returnsInHanded_of_change_and (X := fun w _ => laidMetH C.prog L w) (fun _ _ _ hh h => laidMetH.of_heap hh h) own started noInit hfn witness ?_
  intro W base args ds gs before hval hW _ _ hL _
  have hW' := hW
  obtain ⟨p, q, hA, hV, rfl, hfz, hnd⟩ := hW
  have hV' : gs = [] ∧ q = [] := by rw [hvars] at hV; exact trodVars_none hV
  obtain ⟨rfl, rfl⟩ := hV'
  obtain ⟨asx, ⟨h1, h2⟩, h3⟩ := hcall W base args ds p hval hA
  refine (h3 W (fun _ => False) args (fun _ h => h.elim) (hGL W hL) h1 h2).mono ?_
  rintro e W' ⟨v, O', rfl, hg, _, hrt⟩
  have hv : v = .bool true := by
    have : Rd W' O' (.bool true) v := hrt
    cases this; rfl
  subst hv
  have hlen : ∀ {ts : List TypeId} {vs : List Value} {ds : List (DataW H)} {ps : List MemPlace}, DataW.TrodAll enc C.prog W 0 (fun _ => true) true ts vs ds ps → ds.length = ts.length := by
    intro ts
    induction ts with
    | nil => intro vs ds ps h; obtain ⟨_, rfl, _⟩ := trodAll_nil h; rfl
    | cons t ts ih => intro vs ds ps h; obtain ⟨v, vs', d, ds', p, q, rfl, rfl, rfl, h1, h2⟩ := trodAll_cons h; simp [ih h2]
  exact ⟨_, rfl, law_post hl hr hvars (by rw [List.append_nil] at hW'; rw [List.append_nil] at *; exact hW') hA hg hres hB (hs ds (by rw [hlen hA]; simp))⟩
end
end Go.Abs

