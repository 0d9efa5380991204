/- The abstract layer that the proof stands on: no condition. -/
import Derived.Test.YtkfgkkbfipgklaaAbsZ
/- Functions that are handed boxes of the caller's, to write into them. -/
namespace Go.Abs
open Go.RowKit

theorem RdA.mapF {w : World} {O : Nat → Prop} {θ θ' : Nat → Option Value} (ρ : Nat → Nat) (hθ : ∀ i v, θ i = some v → θ' (ρ i) = some v) :
    ∀ {x : AV} {v : Value}, RdA w O θ x v → RdA w O θ' (x.map ρ) v := by
  intro x v h
  induction h with
  | pv p v h => exact .pv _ v h
  | ls id v h => exact .ls _ v (hθ _ _ h)
  | le id sz i off g n cap h => exact .le _ _ _ _ g n cap (hθ _ _ h)
  | lp id off g h => exact .lp _ _ g (hθ _ _ h)
  | ra id m g n cap h h0 => exact .ra _ _ g n cap (hθ _ _ h) h0
  | cs sz rows v h hc => exact .cs _ _ v h hc
  | fn f caps us hn h ih =>
    refine .fn _ _ us (by rw [hn, AV.mapL_length]) fun i c u hc hu => ?_
    rw [AV.mapL_get, Option.map_eq_some_iff] at hc
    obtain ⟨c', hc', rfl⟩ := hc
    exact ih i c' u hc' hu
  | tup xs us hn h ih =>
    refine .tup _ us (by rw [hn, AV.mapL_length]) fun i c u hc hu => ?_
    rw [AV.mapL_get, Option.map_eq_some_iff] at hc
    obtain ⟨c', hc', rfl⟩ := hc
    exact ih i c' u hc' hu
theorem BlkOk.mapF {w : World} {O : Nat → Prop} {θ θ' : Nat → Option Value} (ρ : Nat → Nat) (hθ : ∀ i v, θ i = some v → θ' (ρ i) = some v) {v : Value} {b : Blk} (h : BlkOk w O θ v b) : BlkOk w O θ' v (b.map ρ) := by
  cases b with
  | row e sz rows => exact h
  | box t cells =>
    obtain ⟨g, us, rfl, h1, h2, h3⟩ := h
    refine ⟨g, us, rfl, h1, by rw [AV.mapL_length]; exact h2, fun j c u hc hu => ?_⟩
    rw [AV.mapL_get, Option.map_eq_some_iff] at hc
    obtain ⟨c', hc', rfl⟩ := hc
    exact ⟨(h3 j c' u hc' hu).1.mapF ρ hθ, (h3 j c' u hc' hu).2⟩
  | dict P t n m => exact h

/-- The blocks that a call is handed, to be written. -/
def HpOf (hp : List (Nat × Option Blk)) (θ : Nat → Option Value) (g : Nat) : Prop := ∃ id b v, look id hp = some b ∧ θ id = some v ∧ blkOf v = some g

/-- What names stand for, in a world. -/
structure PreW (w : World) (O : Nat → Prop) (θ : Nat → Option Value) (hp : List (Nat × Option Blk)) (n : Nat) : Prop where
  own : ∀ id b, look id hp = some b → ∃ v, θ id = some v ∧ BlkOk w O θ v b ∧ ∀ g, blkOf v = some g → O g ∧ g < w.heap.size
  inj : ∀ i j bi bj vi vj g, look i hp = some bi → look j hp = some bj → θ i = some vi → θ j = some vj → blkOf vi = some g → blkOf vj = some g → i = j
  dom : ∀ id v, θ id = some v → id < n
  one : ∀ id v, θ id = some v → v.oneCell' = true

/-- What a call's results are. -/
def topW : List AV → AV
  | [x] => x
  | xs => .tup xs

/-- **A function's contract**: called with values that read as `args`, over blocks of the caller's, it returns what reads as `rs`, and leaves these blocks as `hp'` says. -/
def FnW (P : Program) (f : FuncId) (args : List AV) (hp : List (Nat × Option Blk)) (n : Nat) (kb : List (Nat × Nat)) (rs : List AV) (hp' : List (Nat × Option Blk)) (n' : Nat) : Prop :=
  ∀ (w : World) (O : Nat → Prop) (θ : Nat → Option Value) (vs : Array Value), (∀ g, O g → g < w.heap.size) → PreW w O θ hp n → vs.size = args.length →
    (∀ (i : Nat) (x : AV) (v : Value), args[i]? = some x → vs[i]? = some v → RdA w O θ x v) →
    Calls P f vs w fun e w' => ∃ v O' θ', e = .returned v ∧ Ext (HpOf hp θ) w w' ∧ (∀ g, O g → ¬ HpOf hp θ g → O' g) ∧ (∀ g, O' g → g < w'.heap.size) ∧
      (∀ g, O' g → g < w.heap.size → O g) ∧
      PreW w' O' θ' hp' n' ∧ (∀ g, HpOf hp' θ' g → HpOf hp θ g ∨ w.heap.size ≤ g) ∧ (∀ ij ∈ kb, θ' ij.2 = θ ij.1) ∧ RdA w' O' θ' (topW rs) v

def FnW.cx (w : World) (O : Nat → Prop) (hp : List (Nat × Option Blk)) (θ : Nat → Option Value) (t0 : Array Value) : Cx :=
  { w0 := w, L := HpOf hp θ, X := fun g => O g ∧ ¬ HpOf hp θ g, K := fun _ => False, J := fun _ _ _ _ => True, Jst := fun _ _ => trivial, KX := fun _ h => h.elim, t0 := t0 }

def FnWPost (P : Program) (fn : Func) (w : World) (O : Nat → Prop) (θ : Nat → Option Value) (hp : List (Nat × Option Blk)) (kb : List (Nat × Nat)) (rs : List AV) (hp' : List (Nat × Option Blk)) (n' : Nat) : Exit → Act → World → Prop :=
  bodyPostM (FF none) 0 P fn fun e w' => ∃ v O' θ', e = .returned v ∧ Ext (HpOf hp θ) w w' ∧ (∀ g, O g → ¬ HpOf hp θ g → O' g) ∧ (∀ g, O' g → g < w'.heap.size) ∧
      (∀ g, O' g → g < w.heap.size → O g) ∧
      PreW w' O' θ' hp' n' ∧ (∀ g, HpOf hp' θ' g → HpOf hp θ g ∨ w.heap.size ≤ g) ∧ (∀ ij ∈ kb, θ' ij.2 = θ ij.1) ∧ RdA w' O' θ' (topW rs) v

def argsFrW : Nat → List AV → List (Nat × Option AV)
  | _, [] => []
  | i, p :: ps => (i, some p) :: argsFrW (i + 1) ps
theorem argsFrW_look : ∀ (ps : List AV) (k t : Nat) (x : AV), look t (argsFrW k ps) = some x → k ≤ t ∧ ps[t - k]? = some x
  | [], k, t, x, h => by simp [argsFrW, look] at h
  | p :: ps, k, t, x, h => by
    simp only [argsFrW, look_cons] at h
    split at h
    · rename_i e; subst e; cases h; exact ⟨Nat.le_refl _, by simp⟩
    · obtain ⟨h2, h3⟩ := argsFrW_look ps (k + 1) t x h
      refine ⟨by omega, ?_⟩
      rw [show t - k = (t - (k + 1)) + 1 by omega, List.getElem?_cons_succ]
      exact h3

/-- What is known at a function's start of what its parameters hold. -/
structure WCx (c : Cx) (w : World) (O : Nat → Prop) (θ : Nat → Option Value) (hp : List (Nat × Option Blk)) (args : List AV) : Prop where
  cx : c = FnW.cx w O hp θ c.t0
  bo : ∀ g, HpOf hp θ g → O g
  rd : ∀ (i : Nat) (x : AV), args[i]? = some x → RdA w O θ x (c.t0.getD i undef)

/-- A contract, out of the body's walk; the slots `kt` stay as they are. -/
theorem fnW_of_body {P : Program} {f : FuncId} {fn : Func} {code : Code} {n m n' : Nat} {args : List AV} {hp hp' : List (Nat × Option Blk)} {kb : List (Nat × Nat)} {rs : List AV} (kt : List Nat) (hf : P.funcs[f]? = some fn) (hb : fn.body = some code) (hn : fn.ntmps = n) (hl : Nat.ble args.length n = true)
    (h : ∀ c w O θ, WCx c w O θ hp args → AW none P c code (FnWPost P fn w O θ hp kb rs hp' n') { n := n, fr := argsFrW 0 args, hp := hp, next := m, kt := kt }) : FnW P f args hp m kb rs hp' n' := by
  intro w O θ vs hO hpre hsz hrd
  refine (callsIn_wide (n := 0)).1 (callsIn_of_wp_marks (F := FF none) hf hb trivial ?_)
  have hl' : args.length ≤ n := Nat.le_of_ble_eq_true hl
  have htm : ∀ (i : Nat) (x : AV), args[i]? = some x → RdA w O θ x ((vs ++ Array.replicate (fn.ntmps - vs.size) undef).getD i undef) := by
    intro t x hp'
    have ht : t < vs.size := by rw [hsz]; exact (List.getElem?_eq_some_iff.1 hp').1
    have hv : vs[t]? = some vs[t] := by simp [ht]
    have : (vs ++ Array.replicate (fn.ntmps - vs.size) undef).getD t undef = vs[t] := by
      simp [Array.getElem?_append, ht]
    rw [this]
    exact hrd t x _ hp' hv
  refine h (FnW.cx w O hp θ (vs ++ Array.replicate (fn.ntmps - vs.size) undef)) w O θ ⟨rfl, fun g ⟨id, b, v, q1, q2, q3⟩ => (by obtain ⟨v', h4, _, h5⟩ := hpre.own id b q1; rw [q2] at h4; cases h4; exact (h5 g q3).1), htm⟩ _ w ⟨O, θ, ?_⟩
  refine ⟨by simp [hn]; omega, .nil, ?_, fun id b hb => ?_, hpre.inj, fun id v hv => ⟨hpre.dom id v hv, by simp⟩, fun k hk => (by cases hk), hpre.one, hO, ⟨rfl, rfl, rfl, Nat.le_refl _, fun _ _ _ => rfl⟩, fun g hg => hg.1, fun g hg => hO g hg.1, fun g hg => ?_, fun d hd => (by cases hd), fun g hg _ => ?_, fun t ht => rfl, trivial⟩
  · intro t x hx
    obtain ⟨_, hp⟩ := argsFrW_look args 0 t x hx
    exact htm t x (by simpa using hp)
  · obtain ⟨v, hv, hbo, hg⟩ := hpre.own id b hb
    exact ⟨v, hv, hbo, fun g hgg => ⟨(hg g hgg).1, (hg g hgg).2, fun hL => (hL ⟨id, b, v, hb, hv, hgg⟩).elim, fun hX => hX.2 ⟨id, b, v, hb, hv, hgg⟩⟩⟩
  · obtain ⟨id, b, v, h1, h2, h3⟩ := hg
    obtain ⟨v', h4, _, h5⟩ := hpre.own id b h1
    rw [h2] at h4; cases h4
    exact (h5 g h3).2
  · by_cases hh : HpOf hp θ g
    · exact .inr hh
    · exact .inl ⟨hg, hh⟩

/-! ### The names that are kept: those of a parameter that is not written. -/
mutual
def kbOf : AV → AV → List (Nat × Nat)
  | .lp i _, .lp j _ => [(i, j)]
  | .fn _ xs, .fn _ ys => kbL xs ys
  | _, _ => []
def kbL : List AV → List AV → List (Nat × Nat)
  | x :: xs, y :: ys => kbOf x y ++ kbL xs ys
  | _, _ => []
end
theorem kbOf_ok {w w' : World} {O O' : Nat → Prop} {θ θ' : Nat → Option Value} : ∀ {x : AV} {v : Value}, RdA w O θ x v → ∀ {y : AV}, RdA w' O' θ' y v → ∀ ij ∈ kbOf x y, θ' ij.2 = θ ij.1 := by
  intro x v h
  induction h with
  | lp id off g h =>
    intro y hy ij hij
    cases hy with
    | lp id' off' g' h' =>
      simp [kbOf] at hij; subst hij
      rw [h, h']
    | _ => simp [kbOf] at hij
  | fn f caps us hn h ih =>
    intro y hy ij hij
    cases hy with
    | fn f' caps' _ hn' h' =>
      simp only [kbOf] at hij
      have key : ∀ (xs ys : List AV) (k : Nat), (∀ i : Nat, caps[k + i]? = xs[i]?) → (∀ i : Nat, caps'[k + i]? = ys[i]?) → ∀ ij ∈ kbL xs ys, θ' ij.2 = θ ij.1 := by
        intro xs
        induction xs with
        | nil => intro ys k _ _ ij hij; simp [kbL] at hij
        | cons x xs ihx =>
          intro ys k hx hy ij hij
          cases ys with
          | nil => simp [kbL] at hij
          | cons y ys =>
            simp only [kbL, List.mem_append] at hij
            rcases hij with hij | hij
            · have hx0 := hx 0
              have hy0 := hy 0
              simp at hx0 hy0
              have hk : k < us.size := by rw [hn]; exact (List.getElem?_eq_some_iff.1 hx0).1
              have hu : us[k]? = some us[k] := by simp [hk]
              exact ih k x _ hx0 hu (h' k y _ hy0 hu) ij hij
            · refine ihx ys (k + 1) (fun i => ?_) (fun i => ?_) ij hij
              · rw [show k + 1 + i = k + (i + 1) by omega, hx (i + 1)]; simp
              · rw [show k + 1 + i = k + (i + 1) by omega, hy (i + 1)]; simp
      exact key caps caps' 0 (fun i => by simp) (fun i => by simp) ij hij
    | _ => simp [kbOf] at hij
  | _ => intro y _ ij hij; simp [kbOf] at hij
/-- All that are kept. -/
def kbAll (args : List AV) (fr : List (Nat × Option AV)) : List Nat → List (Nat × Nat)
  | [] => []
  | t :: l => (match args[t]?, look t fr with | some x, some y => kbOf x y | _, _ => []) ++ kbAll args fr l

section
variable {ro : Option Nat} {P : Program} {c : Cx} {s s' : St} {o : Oper} {d : Option Nat}

theorem kbAll_ok {w0 : World} {O0 : Nat → Prop} {θ0 : Nat → Option Value} {hp0 : List (Nat × Option Blk)} {args : List AV} (hc : WCx c w0 O0 θ0 hp0 args) {O : Nat → Prop} {θ : Nat → Option Value} {a : Act} {w : World} (hs : SimAt c s O θ a w) :
    ∀ (l : List Nat), (∀ t ∈ l, t ∈ s.kt) → ∀ ij ∈ kbAll args s.fr l, θ ij.2 = θ0 ij.1
  | [], _, ij, h => by simp [kbAll] at h
  | t :: l, hl, ij, h => by
    simp only [kbAll, List.mem_append] at h
    rcases h with h | h
    · split at h
      · rename_i x y hx hy
        have h1 := hc.rd t x hx
        have h2 := hs.fr t y hy
        rw [hs.kp t (hl t (by simp))] at h2
        exact kbOf_ok h1 h2 ij h
      · simp at h
    · exact kbAll_ok hc hs l (fun t ht => hl t (by simp [ht])) ij h

/-- The result variables, one by one, as the activation's values. -/
inductive RWs (P : Program) (s : St) : List ResultVar → List AV → Prop
  | nil : RWs P s [] []
  | cons (rv : ResultVar) (x : AV) (rvs : List ResultVar) (xs : List AV) (h1 : RV P s rv x) (h3 : RWs P s rvs xs) : RWs P s (rv :: rvs) (x :: xs)
theorem RWs.run {rvs : List ResultVar} {xs : List AV} (h : RWs P s rvs xs) {O : Nat → Prop} {θ : Nat → Option Value} {a : Act} {w : World} (hs : SimAt c s O θ a w) :
    ∃ us : List Value, (rvs.mapM fun rv => rvRun rv a.tmps).run P w = .ok us w ∧ us.length = xs.length ∧ ∀ (i : Nat) (x : AV) (u : Value), xs[i]? = some x → us[i]? = some u → RdA w O θ x u := by
  induction h with
  | nil => exact ⟨[], by simp, rfl, by simp⟩
  | cons rv x rvs xs h1 h3 ih =>
    obtain ⟨us, i1, i2, i3⟩ := ih
    obtain ⟨v, e1, e2⟩ := h1.run hs
    refine ⟨v :: us, by simp [List.mapM_cons, Sem.run_bind, e1, i1], by simp [i2], fun i r' u hr hu => ?_⟩
    cases i with
    | zero => simp at hr hu; subst hr; subst hu; exact e2
    | succ i => exact i3 i r' u (by simpa using hr) (by simpa using hu)

theorem post_retW {fn : Func} {w0 : World} {O0 : Nat → Prop} {θ0 : Nat → Option Value} {hp0 : List (Nat × Option Blk)} {args : List AV} {kb : List (Nat × Nat)} {rvs : List ResultVar} {xs : List AV} {e : Exit} (hc : WCx c w0 O0 θ0 hp0 args) (hr : fn.results = rvs.toArray) (h : RWs P s rvs xs) (hkb : kbAll args s.fr s.kt = kb) (he : e = .ret ∨ e = .normal) :
    Post c (FnWPost P fn w0 O0 θ0 hp0 kb xs s.hp s.next) e s := by
  rintro a w ⟨O, θ, hs⟩
  have key : LeavesInM (FF none) 0 P fn a.tmps (fun e w' => ∃ v O' θ', e = .returned v ∧ Ext (HpOf hp0 θ0) w0 w' ∧ (∀ g, O0 g → ¬ HpOf hp0 θ0 g → O' g) ∧ (∀ g, O' g → g < w'.heap.size) ∧
      (∀ g, O' g → g < w0.heap.size → O0 g) ∧
      PreW w' O' θ' s.hp s.next ∧ (∀ g, HpOf s.hp θ' g → HpOf hp0 θ0 g ∨ w0.heap.size ≤ g) ∧ (∀ ij ∈ kb, θ' ij.2 = θ0 ij.1) ∧ RdA w' O' θ' (topW xs) v) a.defers .returning w := by
    refine leaves_marks a.defers a w rfl hs fun a' w' ht hs2 => ?_
    obtain ⟨us, h1, h2, h3⟩ := h.run hs2
    rw [ht] at h1
    have hw0 : c.w0 = w0 := by rw [hc.cx]; rfl
    have hL : c.L = HpOf hp0 θ0 := by rw [hc.cx]; rfl
    have hX : c.X = fun g => O0 g ∧ ¬ HpOf hp0 θ0 g := by rw [hc.cx]; rfl
    refine ⟨_, run_results hr h1, _, O, θ, rfl, ?_, ?_, hs2.olt, ?_, ⟨fun id b hb => ?_, hs2.inj, fun id v hv => (hs2.dom id v hv).1, hs2.one⟩, ?_, ?_, ?_⟩
    · have he := hs2.ext; rw [hL, hw0] at he; exact he
    · intro g h1 h2; exact hs2.xo g (by rw [hX]; exact ⟨h1, h2⟩)
    · intro g h1 h2
      rcases hs2.oc g h1 (by rw [hw0]; exact h2) with h3 | h3
      · rw [hX] at h3; exact h3.1
      · rw [hL] at h3
        exact hc.bo g h3
    · obtain ⟨v, hv, hbo, hg⟩ := hs2.hp id b hb
      exact ⟨v, hv, hbo, fun g hgg => ⟨(hg g hgg).1, (hg g hgg).2.1⟩⟩
    · rintro g ⟨id, b, v, q1, q2, q3⟩
      obtain ⟨v', hv', _, hg⟩ := hs2.hp id b q1
      rw [q2] at hv'; cases hv'
      by_cases hh : HpOf hp0 θ0 g
      · exact .inl hh
      · right
        have := (hg g q3).2.2.1 (by rw [hL]; exact hh)
        rw [hw0] at this; exact this
    · intro ij hij
      rw [← hkb] at hij
      exact kbAll_ok hc hs2 s.kt (fun t ht => ht) ij hij
    · match xs, us, h2, h3 with
      | [r], [u], _, h3 => exact h3 0 r u rfl rfl
      | [], [], _, h3 => exact .tup [] #[] rfl (by simp)
      | r :: r' :: rs, u :: u' :: us, h2, h3 => exact .tup _ _ (by simpa using h2) (fun i r u hr hu => h3 i r u hr (by simpa using hu))
  rcases he with rfl | rfl
  · exact key
  · exact key
end
end Go.Abs
