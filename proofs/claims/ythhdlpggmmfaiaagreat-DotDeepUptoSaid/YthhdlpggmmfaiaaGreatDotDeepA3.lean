/- The abstract layer that the proof stands on: no condition. -/
import Derived.Test.YthhdlpggmmfaiaaGreatDotDeepA2
import Derived.Lib.ConvBytes
import Derived.Laws.BytesString
import Derived.Lib.Join
import Derived.Lib.AppendZeros
import Derived.Shelf.Strings.Builder1
import Derived.ProofKit
import Derived.OpenShut
import Derived.LaidMore
import Derived.Stop.Joined
/- Functions that are handed boxes of the caller's, to write into them. -/
namespace Go.Abs
variable {G : List (Nat × List PV)}
open Go.RowKit
theorem RdA.mapF {w : World} {O : Nat → Prop} {θ θ' : Nat → Option Value} (ρ : Nat → Nat) (hθ : ∀ i v, θ i = some v → θ' (ρ i) = some v) :
  ∀ {x : AV} {v : Value}, RdA w O θ x v → RdA w O θ' (x.map ρ) v := by
 intro x v h
 induction h with
 | pv p v h => exact .pv _ v h
 | ls id v h => exact .ls _ v (hθ _ _ h)
 | le id sz i off g n cap h => exact .le _ _ _ _ g n cap (hθ _ _ h)
 | lp id off g h => exact .lp _ _ g (hθ _ _ h)
 | ra id m g n cap h h0 => exact .ra _ _ g n cap (hθ _ _ h) h0
 | aw id off n g h => exact .aw _ _ _ g (hθ _ _ h)
 | sp id sz r v0 v h hc => exact .sp _ _ _ v0 v (hθ _ _ h) hc
 | bp0 id => exact .bp0 _
 | any v => exact .any v
 | bp1 id g h => exact .bp1 _ g (hθ _ _ h)
 | cs sz rows v h hc => exact .cs _ _ v h hc
 | fn f caps us hn h ih =>
  refine .fn _ _ us (by rw [hn, AV.mapL_length]) fun i c u hc hu => ?_
  rw [AV.mapL_get, Option.map_eq_some_iff] at hc
  obtain ⟨c', hc', rfl⟩ := hc
  exact ih i c' u hc' hu
 | tup xs us hn h ih =>
  refine .tup _ us (by rw [hn, AV.mapL_length]) fun i c u hc hu => ?_
  rw [AV.mapL_get, Option.map_eq_some_iff] at hc
  obtain ⟨c', hc', rfl⟩ := hc
  exact ih i c' u hc' hu
 | agg xs us hn h1 h ih =>
  refine .agg _ us (by rw [hn, AV.mapL_length]) h1 fun i c u hc hu => ?_
  rw [AV.mapL_get, Option.map_eq_some_iff] at hc
  obtain ⟨c', hc', rfl⟩ := hc
  exact ih i c' u hc' hu
theorem BlkOk.mapF {w : World} {O : Nat → Prop} {θ θ' : Nat → Option Value} (ρ : Nat → Nat) (hθ : ∀ i v, θ i = some v → θ' (ρ i) = some v) {v : Value} {b : Blk} (h : BlkOk w O θ v b) : BlkOk w O θ' v (b.map ρ) := by
 cases b with
 | row e sz rows => exact h
 | box t cells =>
  obtain ⟨g, us, rfl, h1, h2, h3⟩ := h
  refine ⟨g, us, rfl, h1, by rw [AV.mapL_length]; exact h2, fun j c u hc hu => ?_⟩
  rw [AV.mapL_get, Option.map_eq_some_iff] at hc
  obtain ⟨c', hc', rfl⟩ := hc
  exact ⟨(h3 j c' u hc' hu).1.mapF ρ hθ, (h3 j c' u hc' hu).2⟩
 | dict P t n m => exact h
 | dictE P t n m key id2 =>
  obtain ⟨b, st, rfl, h4, h5⟩ := h
  exact ⟨b, st, rfl, hθ _ _ h4, h5⟩
def HpOf (hp : List (Nat × Option Blk)) (θ : Nat → Option Value) (g : Nat) : Prop := ∃ id b v, look id hp = some b ∧ θ id = some v ∧ blkOf v = some g
structure PreW (w : World) (O : Nat → Prop) (θ : Nat → Option Value) (hp : List (Nat × Option Blk)) (n : Nat) : Prop where
 own : ∀ id b, look id hp = some b → ∃ v, θ id = some v ∧ BlkOk w O θ v b ∧ ∀ g, blkOf v = some g → O g ∧ g < w.heap.size
 inj : ∀ i j bi bj vi vj g, look i hp = some bi → look j hp = some bj → θ i = some vi → θ j = some vj → blkOf vi = some g → blkOf vj = some g → i = j
 dom : ∀ id v, θ id = some v → id < n
 one : ∀ id v, θ id = some v → v.oneCell' = true
def topW : List AV → AV
 | [x] => x
 | xs => .tup xs
def FnW (G : List (Nat × List PV)) (P : Program) (f : FuncId) (args : List AV) (hp : List (Nat × Option Blk)) (n : Nat) (kb : List (Nat × Nat)) (rs : List AV) (hp' : List (Nat × Option Blk)) (n' : Nat) : Prop :=
 ∀ (w : World) (O : Nat → Prop) (θ : Nat → Option Value) (vs : Array Value), (∀ g, O g → g < w.heap.size) → GlobOk G w O → PreW w O θ hp n → vs.size = args.length →
  (∀ (i : Nat) (x : AV) (v : Value), args[i]? = some x → vs[i]? = some v → RdA w O θ x v) →
  Calls P f vs w fun e w' => ∃ v O' θ', e = .returned v ∧ Ext (HpOf hp θ) w w' ∧ (∀ g, O g → ¬ HpOf hp θ g → O' g) ∧ (∀ g, O' g → g < w'.heap.size) ∧
   (∀ g, O' g → g < w.heap.size → O g) ∧
   PreW w' O' θ' hp' n' ∧ (∀ g, HpOf hp' θ' g → HpOf hp θ g ∨ w.heap.size ≤ g) ∧ (∀ ij ∈ kb, θ' ij.2 = θ ij.1) ∧ RdA w' O' θ' (topW rs) v
def FnW.cx (w : World) (O : Nat → Prop) (hp : List (Nat × Option Blk)) (θ : Nat → Option Value) (t0 : Array Value) : Cx G :=
 { w0 := w, L := HpOf hp θ, X := fun g => O g ∧ ¬ HpOf hp θ g, K := fun _ => False, J := fun _ O _ w => GlobOk G w O, Jst := fun h s => h.stp s, JG := fun h => h, KX := fun _ h => h.elim, t0 := t0 }
def FnWPost (P : Program) (fn : Func) (w : World) (O : Nat → Prop) (θ : Nat → Option Value) (hp : List (Nat × Option Blk)) (kb : List (Nat × Nat)) (rs : List AV) (hp' : List (Nat × Option Blk)) (n' : Nat) : Exit → Act → World → Prop :=
 bodyPostM (FF none) 0 P fn fun e w' => ∃ v O' θ', e = .returned v ∧ Ext (HpOf hp θ) w w' ∧ (∀ g, O g → ¬ HpOf hp θ g → O' g) ∧ (∀ g, O' g → g < w'.heap.size) ∧
   (∀ g, O' g → g < w.heap.size → O g) ∧
   PreW w' O' θ' hp' n' ∧ (∀ g, HpOf hp' θ' g → HpOf hp θ g ∨ w.heap.size ≤ g) ∧ (∀ ij ∈ kb, θ' ij.2 = θ ij.1) ∧ RdA w' O' θ' (topW rs) v
def argsFrW : Nat → List AV → List (Nat × Option AV)
 | _, [] => []
 | i, p :: ps => (i, some p) :: argsFrW (i + 1) ps
theorem argsFrW_look : ∀ (ps : List AV) (k t : Nat) (x : AV), look t (argsFrW k ps) = some x → k ≤ t ∧ ps[t - k]? = some x
 | [], k, t, x, h => by simp [argsFrW, look] at h
 | p :: ps, k, t, x, h => by
  simp only [argsFrW, look_cons] at h
  split at h
  ·rename_i e; subst e; cases h; exact ⟨Nat.le_refl _, by simp⟩
  ·obtain ⟨h2, h3⟩ := argsFrW_look ps (k + 1) t x h
   refine ⟨by omega, ?_⟩
   rw [show t - k = (t - (k + 1)) + 1 by omega, List.getElem?_cons_succ]
   exact h3
structure WCx (c : Cx G) (w : World) (O : Nat → Prop) (θ : Nat → Option Value) (hp : List (Nat × Option Blk)) (args : List AV) : Prop where
 cx : c = FnW.cx w O hp θ c.t0
 bo : ∀ g, HpOf hp θ g → O g
 rd : ∀ (i : Nat) (x : AV), args[i]? = some x → RdA w O θ x (c.t0.getD i undef)
theorem fnW_of_body {P : Program} {f : FuncId} {fn : Func} {code : Code} {n m n' : Nat} {args : List AV} {hp hp' : List (Nat × Option Blk)} {kb : List (Nat × Nat)} {rs : List AV} (kt : List Nat) (hf : P.funcs[f]? = some fn) (hb : fn.body = some code) (hn : fn.ntmps = n) (hl : Nat.ble args.length n = true)
  (h : ∀ (c : Cx G) w O θ, WCx c w O θ hp args → AW none P c code (FnWPost P fn w O θ hp kb rs hp' n') { n := n, fr := argsFrW 0 args, hp := hp, next := m, kt := kt }) : FnW G P f args hp m kb rs hp' n' := by
 intro w O θ vs hO hglob hpre hsz hrd
 refine (callsIn_wide (n := 0)).1 (callsIn_of_wp_marks (F := FF none) hf hb trivial ?_)
 have hl' : args.length ≤ n := Nat.le_of_ble_eq_true hl
 have htm : ∀ (i : Nat) (x : AV), args[i]? = some x → RdA w O θ x ((vs ++ Array.replicate (fn.ntmps - vs.size) undef).getD i undef) := by
  intro t x hp'
  have ht : t < vs.size := by rw [hsz]; exact (List.getElem?_eq_some_iff.1 hp').1
  have hv : vs[t]? = some vs[t] := by simp [ht]
  have : (vs ++ Array.replicate (fn.ntmps - vs.size) undef).getD t undef = vs[t] := by
   simp [Array.getElem?_append, ht]
  rw [this]
  exact hrd t x _ hp' hv
 refine h (FnW.cx w O hp θ (vs ++ Array.replicate (fn.ntmps - vs.size) undef)) w O θ ⟨rfl, fun g ⟨id, b, v, q1, q2, q3⟩ => (by obtain ⟨v', h4, _, h5⟩ := hpre.own id b q1; rw [q2] at h4; cases h4; exact (h5 g q3).1), htm⟩ _ w ⟨O, θ, ?_⟩
 refine ⟨by simp [hn]; omega, .nil, ?_, fun id b hb => ?_, hpre.inj, fun id v hv => ⟨hpre.dom id v hv, by simp⟩, fun k hk => (by cases hk), hpre.one, hO, ⟨rfl, rfl, rfl, Nat.le_refl _, fun _ _ _ => rfl⟩, fun g hg => hg.1, fun g hg => hO g hg.1, fun g hg => ?_, fun d hd => (by cases hd), fun g hg _ => ?_, fun t ht => rfl, hglob⟩
 ·intro t x hx
  obtain ⟨_, hp⟩ := argsFrW_look args 0 t x hx
  exact htm t x (by simpa using hp)
 ·obtain ⟨v, hv, hbo, hg⟩ := hpre.own id b hb
  exact ⟨v, hv, hbo, fun g hgg => ⟨(hg g hgg).1, (hg g hgg).2, fun hL => (hL ⟨id, b, v, hb, hv, hgg⟩).elim, fun hX => hX.2 ⟨id, b, v, hb, hv, hgg⟩⟩⟩
 ·obtain ⟨id, b, v, h1, h2, h3⟩ := hg
  obtain ⟨v', h4, _, h5⟩ := hpre.own id b h1
  rw [h2] at h4; cases h4
  exact (h5 g h3).2
 ·by_cases hh : HpOf hp θ g
  ·exact .inr hh
  ·exact .inl ⟨hg, hh⟩
mutual
def kbOf : AV → AV → List (Nat × Nat)
 | .lp i _, .lp j _ => [(i, j)]
 | .ls i, .ls j => [(i, j)]
 | .fn _ xs, .fn _ ys => kbL xs ys
 | _, _ => []
def kbL : List AV → List AV → List (Nat × Nat)
 | x :: xs, y :: ys => kbOf x y ++ kbL xs ys
 | _, _ => []
end
theorem kbOf_ok {w w' : World} {O O' : Nat → Prop} {θ θ' : Nat → Option Value} : ∀ {x : AV} {v : Value}, RdA w O θ x v → ∀ {y : AV}, RdA w' O' θ' y v → ∀ ij ∈ kbOf x y, θ' ij.2 = θ ij.1 := by
 intro x v h
 induction h with
 | lp id off g h =>
  intro y hy ij hij
  cases hy with
  | lp id' off' g' h' =>
   simp [kbOf] at hij; subst hij
   rw [h, h']
  | _ => simp [kbOf] at hij
 | ls id v h =>
  intro y hy ij hij
  cases hy with
  | ls id' _ h' =>
   simp [kbOf] at hij; subst hij
   rw [h, h']
  | _ => simp [kbOf] at hij
 | fn f caps us hn h ih =>
  intro y hy ij hij
  cases hy with
  | fn f' caps' _ hn' h' =>
   simp only [kbOf] at hij
   have key : ∀ (xs ys : List AV) (k : Nat), (∀ i : Nat, caps[k + i]? = xs[i]?) → (∀ i : Nat, caps'[k + i]? = ys[i]?) → ∀ ij ∈ kbL xs ys, θ' ij.2 = θ ij.1 := by
    intro xs
    induction xs with
    | nil => intro ys k _ _ ij hij; simp [kbL] at hij
    | cons x xs ihx =>
     intro ys k hx hy ij hij
     cases ys with
     | nil => simp [kbL] at hij
     | cons y ys =>
      simp only [kbL, List.mem_append] at hij
      rcases hij with hij | hij
      ·have hx0 := hx 0
       have hy0 := hy 0
       simp at hx0 hy0
       have hk : k < us.size := by rw [hn]; exact (List.getElem?_eq_some_iff.1 hx0).1
       have hu : us[k]? = some us[k] := by simp [hk]
       exact ih k x _ hx0 hu (h' k y _ hy0 hu) ij hij
      ·refine ihx ys (k + 1) (fun i => ?_) (fun i => ?_) ij hij
       ·rw [show k + 1 + i = k + (i + 1) by omega, hx (i + 1)]; simp
       ·rw [show k + 1 + i = k + (i + 1) by omega, hy (i + 1)]; simp
   exact key caps caps' 0 (fun i => by simp) (fun i => by simp) ij hij
  | _ => simp [kbOf] at hij
 | _ => intro y _ ij hij; simp [kbOf] at hij
def kbAll (args : List AV) (fr : List (Nat × Option AV)) : List Nat → List (Nat × Nat)
 | [] => []
 | t :: l => (match args[t]?, look t fr with | some x, some y => kbOf x y | _, _ => []) ++ kbAll args fr l
section
variable {ro : Option Nat} {P : Program} {c : Cx G} {s s' : St} {o : Oper} {d : Option Nat}
theorem kbAll_ok {w0 : World} {O0 : Nat → Prop} {θ0 : Nat → Option Value} {hp0 : List (Nat × Option Blk)} {args : List AV} (hc : WCx c w0 O0 θ0 hp0 args) {O : Nat → Prop} {θ : Nat → Option Value} {a : Act} {w : World} (hs : SimAt c s O θ a w) :
  ∀ (l : List Nat), (∀ t ∈ l, t ∈ s.kt) → ∀ ij ∈ kbAll args s.fr l, θ ij.2 = θ0 ij.1
 | [], _, ij, h => by simp [kbAll] at h
 | t :: l, hl, ij, h => by
  simp only [kbAll, List.mem_append] at h
  rcases h with h | h
  ·split at h
   ·rename_i x y hx hy
    have h1 := hc.rd t x hx
    have h2 := hs.fr t y hy
    rw [hs.kp t (hl t (by simp))] at h2
    exact kbOf_ok h1 h2 ij h
   ·simp at h
  ·exact kbAll_ok hc hs l (fun t ht => hl t (by simp [ht])) ij h
inductive RWs (P : Program) (s : St) : List ResultVar → List AV → Prop
 | nil : RWs P s [] []
 | cons (rv : ResultVar) (x : AV) (rvs : List ResultVar) (xs : List AV) (h1 : RV P s rv x) (h3 : RWs P s rvs xs) : RWs P s (rv :: rvs) (x :: xs)
theorem RWs.run {rvs : List ResultVar} {xs : List AV} (h : RWs P s rvs xs) {O : Nat → Prop} {θ : Nat → Option Value} {a : Act} {w : World} (hs : SimAt c s O θ a w) :
  ∃ us : List Value, (rvs.mapM fun rv => rvRun rv a.tmps).run P w = .ok us w ∧ us.length = xs.length ∧ ∀ (i : Nat) (x : AV) (u : Value), xs[i]? = some x → us[i]? = some u → RdA w O θ x u := by
 induction h with
 | nil => exact ⟨[], by simp, rfl, by simp⟩
 | cons rv x rvs xs h1 h3 ih =>
  obtain ⟨us, i1, i2, i3⟩ := ih
  obtain ⟨v, e1, e2⟩ := h1.run hs
  refine ⟨v :: us, by simp [List.mapM_cons, Sem.run_bind, e1, i1], by simp [i2], fun i r' u hr hu => ?_⟩
  cases i with
  | zero => simp at hr hu; subst hr; subst hu; exact e2
  | succ i => exact i3 i r' u (by simpa using hr) (by simpa using hu)
theorem post_retW {fn : Func} {w0 : World} {O0 : Nat → Prop} {θ0 : Nat → Option Value} {hp0 : List (Nat × Option Blk)} {args : List AV} {kb : List (Nat × Nat)} {rvs : List ResultVar} {xs : List AV} {e : Exit} (hc : WCx c w0 O0 θ0 hp0 args) (hr : fn.results = rvs.toArray) (h : RWs P s rvs xs) (hkb : kbAll args s.fr s.kt = kb) (he : e = .ret ∨ e = .normal) :
  Post c (FnWPost P fn w0 O0 θ0 hp0 kb xs s.hp s.next) e s := by
 rintro a w ⟨O, θ, hs⟩
 have key : LeavesInM (FF none) 0 P fn a.tmps (fun e w' => ∃ v O' θ', e = .returned v ∧ Ext (HpOf hp0 θ0) w0 w' ∧ (∀ g, O0 g → ¬ HpOf hp0 θ0 g → O' g) ∧ (∀ g, O' g → g < w'.heap.size) ∧
   (∀ g, O' g → g < w0.heap.size → O0 g) ∧
   PreW w' O' θ' s.hp s.next ∧ (∀ g, HpOf s.hp θ' g → HpOf hp0 θ0 g ∨ w0.heap.size ≤ g) ∧ (∀ ij ∈ kb, θ' ij.2 = θ0 ij.1) ∧ RdA w' O' θ' (topW xs) v) a.defers .returning w := by
  refine leaves_marks a.defers a w rfl hs fun a' w' ht hs2 => ?_
  obtain ⟨us, h1, h2, h3⟩ := h.run hs2
  rw [ht] at h1
  have hw0 : c.w0 = w0 := by rw [hc.cx]; rfl
  have hL : c.L = HpOf hp0 θ0 := by rw [hc.cx]; rfl
  have hX : c.X = fun g => O0 g ∧ ¬ HpOf hp0 θ0 g := by rw [hc.cx]; rfl
  refine ⟨_, run_results hr h1, _, O, θ, rfl, ?_, ?_, hs2.olt, ?_, ⟨fun id b hb => ?_, hs2.inj, fun id v hv => (hs2.dom id v hv).1, hs2.one⟩, ?_, ?_, ?_⟩
  ·have he := hs2.ext; rw [hL, hw0] at he; exact he
  ·intro g h1 h2; exact hs2.xo g (by rw [hX]; exact ⟨h1, h2⟩)
  ·intro g h1 h2
   rcases hs2.oc g h1 (by rw [hw0]; exact h2) with h3 | h3
   ·rw [hX] at h3; exact h3.1
   ·rw [hL] at h3
    exact hc.bo g h3
  ·obtain ⟨v, hv, hbo, hg⟩ := hs2.hp id b hb
   exact ⟨v, hv, hbo, fun g hgg => ⟨(hg g hgg).1, (hg g hgg).2.1⟩⟩
  ·rintro g ⟨id, b, v, q1, q2, q3⟩
   obtain ⟨v', hv', _, hg⟩ := hs2.hp id b q1
   rw [q2] at hv'; cases hv'
   by_cases hh : HpOf hp0 θ0 g
   ·exact .inl hh
   ·right
    have := (hg g q3).2.2.1 (by rw [hL]; exact hh)
    rw [hw0] at this; exact this
  ·intro ij hij
   rw [← hkb] at hij
   exact kbAll_ok hc hs2 s.kt (fun t ht => ht) ij hij
  ·match xs, us, h2, h3 with
   | [r], [u], _, h3 => exact h3 0 r u rfl rfl
   | [], [], _, h3 => exact .tup [] #[] rfl (by simp)
   | r :: r' :: rs, u :: u' :: us, h2, h3 => exact .tup _ _ (by simpa using h2) (fun i r u hr hu => h3 i r u hr (by simpa using hu))
 rcases he with rfl | rfl
 ·exact key
 ·exact key
end
end Go.Abs

/- A call that writes into boxes of the caller's. -/
namespace Go.Abs
variable {G : List (Nat × List PV)}
open Go.RowKit
def capsOf : AV → Option (Nat × List AV)
 | .fn f caps => some (f, caps)
 | .pv (.fn f ps) => some (f, ps.map .pv)
 | _ => none
def freshG (s : St) (k : Nat) : Bool := Nat.ble s.next k || s.free.elem k
def keptB (L0 : List Nat) (kb : List (Nat × Nat)) (j x : Nat) : Bool := kb.any fun ij => Nat.beq ij.2 j && (match L0[ij.1]? with | some y => Nat.beq y x | none => false)
def FrL (s : St) (L0 : List Nat) (kb : List (Nat × Nat)) : Nat → List Nat → Prop
 | _, [] => True
 | j, x :: l => (keptB L0 kb j x = true ∨ freshG s x = true) ∧ FrL s L0 kb (j + 1) l
theorem FrL.spec {s : St} {L0 : List Nat} {kb : List (Nat × Nat)} : ∀ {l : List Nat} {k : Nat}, FrL s L0 kb k l → ∀ (j x : Nat), l[j]? = some x → keptB L0 kb (k + j) x = true ∨ freshG s x = true
 | [], k, h, j, x, e => by simp at e
 | y :: l, k, h, j, x, e => by
  cases j with
  | zero => simp at e; subst e; exact h.1
  | succ j => have := FrL.spec h.2 j x (by simpa using e); rw [show k + (j + 1) = k + 1 + j by omega]; exact this
def keysB (hp : List (Nat × Option Blk)) (n : Nat) : Bool := decide ((hp.map (·.1)).Nodup) && hp.all fun x => Nat.blt x.1 n && x.2.isSome
theorem look_of_mem {α : Type} : ∀ {l : List (Nat × Option α)} {k : Nat} {x : Option α}, (l.map (·.1)).Nodup → (k, x) ∈ l → look k l = x
 | [], k, x, _, h => by simp at h
 | (k', x') :: l, k, x, hn, h => by
  simp only [List.map_cons, List.nodup_cons] at hn
  rw [look_cons]
  rcases List.mem_cons.1 h with h | h
  ·cases h; simp
  ·split
   ·rename_i e; subst e
    exact (hn.1 (List.mem_map.2 ⟨_, h, rfl⟩)).elim
   ·exact look_of_mem hn.2 h
def dropB (hp hp' : List (Nat × Option Blk)) (ρ0 ρ1 : Nat → Nat) (drop : List Nat) : Bool := hp.all fun x => drop.elem (ρ0 x.1) || hp'.any fun y => Nat.beq (ρ1 y.1) (ρ0 x.1)
def updW (hp' : List (Nat × Option Blk)) (ρ1 : Nat → Nat) (drop : List Nat) : List (Nat × Option Blk) := hp'.map (fun x => (ρ1 x.1, x.2.map (Blk.map ρ1))) ++ drop.map (fun k => (k, none))
def St.callW (s : St) (hp' : List (Nat × Option Blk)) (L1 drop : List Nat) (nx : Nat) : St :=
 { s with hp := updW hp' (fun i => L1.getD i 0) drop ++ s.hp, next := nx, free := s.free.filter fun x => !(L1.elem x) }
section
variable {ro : Option Nat} {P : Program} {c : Cx G} {s s' : St} {o : Oper} {d : Option Nat}
theorem updW_look {hp hp' : List (Nat × Option Blk)} {ρ0 ρ1 : Nat → Nat} {drop : List Nat} {n' : Nat} {shp : List (Nat × Option Blk)} (hk : keysB hp' n' = true) (hd : dropB hp hp' ρ0 ρ1 drop = true) {x : Nat} {b : Blk} (h : look x (updW hp' ρ1 drop ++ shp) = some b) :
  (∃ j b', x = ρ1 j ∧ look j hp' = some b' ∧ b = b'.map ρ1) ∨ (look x shp = some b ∧ ∀ i bi, look i hp = some bi → x ≠ ρ0 i) := by
 unfold keysB at hk
 simp only [Bool.and_eq_true, decide_eq_true_eq] at hk
 rcases look_append x (updW hp' ρ1 drop) shp with ⟨y, hy, he⟩ | ⟨hno, he⟩
 ·rw [he] at h; subst h
  unfold updW at hy
  rcases List.mem_append.1 hy with hy | hy
  ·obtain ⟨⟨j, z⟩, hz, e⟩ := List.mem_map.1 hy
   injection e with e1 e2
   cases z with
   | none => simp at e2
   | some b' =>
    simp at e2
    exact .inl ⟨j, b', e1.symm, look_of_mem hk.1 hz, e2.symm⟩
  ·obtain ⟨k, _, e⟩ := List.mem_map.1 hy
   injection e with _ e2; cases e2
 ·rw [he] at h
  refine .inr ⟨h, fun i bi hi e => ?_⟩
  have := List.all_eq_true.1 hd (i, some bi) (look_mem hi)
  simp only [Bool.or_eq_true, List.any_eq_true] at this
  rcases this with h1 | ⟨⟨j, z⟩, h1, h2⟩
  ·exact hno none (by unfold updW; exact List.mem_append.2 (.inr (List.mem_map.2 ⟨ρ0 i, by simpa using h1, by rw [e]⟩)))
  ·have h2 := Nat.eq_of_beq_eq_true h2
   exact hno _ (by unfold updW; exact List.mem_append.2 (.inl (List.mem_map.2 ⟨(j, z), h1, by rw [e, ← h2]⟩)))
theorem sim_of_callW {O O' : Nat → Prop} {θ θ' : Nat → Option Value} {a : Act} {w w' : World} (hs : SimAt c s O θ a w) {hp hp' : List (Nat × Option Blk)} {n n' : Nat} {kb : List (Nat × Nat)} (L0 L1 drop : List Nat) (nx : Nat)
  (hn0 : L0.length = n) (hH : SubH s.hp (fun i => L0.getD i s.next) hp) (hn1 : L1.length = n') (hnd1 : L1.Nodup) (hfr : FrL s L0 kb 0 L1) (hk : keysB hp' n' = true) (hdr : dropB hp hp' (fun i => L0.getD i s.next) (fun i => L1.getD i 0) drop = true)
  (hnx : Nat.ble s.next nx = true) (hnx1 : L1.all (fun x => Nat.blt x nx) = true)
  (he : Ext (HpOf hp (fun i => θ (L0.getD i s.next))) w w') (hO1 : ∀ g, O g → ¬ HpOf hp (fun i => θ (L0.getD i s.next)) g → O' g) (hO2 : ∀ g, O' g → g < w'.heap.size) (_hO3 : ∀ g, O' g → g < w.heap.size → O g)
  (hpre : PreW w' O' θ' hp' n') (hnew : ∀ g, HpOf hp' θ' g → HpOf hp (fun i => θ (L0.getD i s.next)) g ∨ w.heap.size ≤ g) (hkb : ∀ ij ∈ kb, θ' ij.2 = θ (L0.getD ij.1 s.next)) :
  ∃ O2 θ2, SimAt c (s.callW hp' L1 drop nx) O2 θ2 a w' ∧ (∀ g, O2 g → O' g) ∧ (∀ j v, θ' j = some v → θ2 (L1.getD j 0) = some v) := by
 classical
 have hnone : θ s.next = none := by
  cases h : θ s.next with
  | none => rfl
  | some v => have := (hs.dom _ _ h).1; omega
 let B : Nat → Prop := HpOf hp (fun i => θ (L0.getD i s.next))
 have hB : ∀ g, B g → O g ∧ g < w.heap.size ∧ (¬ c.L g → c.w0.heap.size ≤ g) ∧ ¬ c.X g ∧ HpB s θ g ∧ ∃ o, w.heap[g]? = some o ∧ memB o = true := by
  rintro g ⟨i, bi, v, h1, h2, h3⟩
  have h4 := SubH.spec hH i bi (look_mem h1)
  obtain ⟨v', h5, h6, h7⟩ := hs.hp _ _ h4
  have : v' = v := by have h2' : θ (L0.getD i s.next) = some v := h2; rw [h5] at h2'; exact Option.some.inj h2'
  subst this
  obtain ⟨h8, h9, h10, h11⟩ := h7 g h3
  exact ⟨h8, h9, h10, h11, ⟨_, _, v', h4, h5, h3⟩, h6.cells h3⟩
 let θ2 : Nat → Option Value := fun x => if h : ∃ j : Nat, L1[j]? = some x then θ' h.choose else θ x
 have hθj : ∀ (j x : Nat), L1[j]? = some x → θ2 x = θ' j := by
  intro j x hx
  have hex : ∃ j : Nat, L1[j]? = some x := ⟨j, hx⟩
  show (if h : ∃ j : Nat, L1[j]? = some x then θ' h.choose else θ x) = _
  rw [dif_pos hex, nodup_inj hnd1 _ _ x hex.choose_spec hx]
 have hlt1 : ∀ j v, θ' j = some v → L1[j]? = some (L1.getD j 0) := by
  intro j v h
  have := hpre.dom j v h
  rw [List.getD_eq_getElem?_getD, List.getElem?_eq_getElem (by omega)]; rfl
 have hθ1 : ∀ j v, θ' j = some v → θ2 (L1.getD j 0) = some v := fun j v h => by rw [hθj j _ (hlt1 j v h)]; exact h
 have hfresh : ∀ x, freshG s x = true → θ x = none := by
  intro x hx
  cases h : θ x with
  | none => rfl
  | some v =>
   obtain ⟨h1, h2⟩ := hs.dom x v h
   simp only [freshG, Bool.or_eq_true, List.elem_eq_mem, decide_eq_true_eq] at hx
   rcases hx with hx | hx
   ·have := Nat.le_of_ble_eq_true hx; omega
   ·exact (h2 hx).elim
 have hθ : ∀ x v, θ x = some v → θ2 x = some v := by
  intro x v hx
  by_cases hex : ∃ j : Nat, L1[j]? = some x
  ·obtain ⟨j, hj⟩ := hex
   rw [hθj j x hj]
   have := FrL.spec hfr j x hj
   rw [Nat.zero_add] at this
   rcases this with h1 | h1
   ·unfold keptB at h1
    obtain ⟨⟨i, j'⟩, h2, h3⟩ := List.any_eq_true.1 h1
    simp only [Bool.and_eq_true] at h3
    obtain ⟨h3, h4⟩ := h3
    have h3 := Nat.eq_of_beq_eq_true h3
    subst h3
    split at h4
    ·rename_i y hy
     have h4 := Nat.eq_of_beq_eq_true h4
     subst h4
     have := hkb _ h2
     simp only at this hy
     rw [this, List.getD_eq_getElem?_getD, hy]; exact hx
    ·cases h4
   ·rw [hfresh x h1] at hx; cases hx
  ·show (if h : ∃ j : Nat, L1[j]? = some x then θ' h.choose else θ x) = _
   rw [dif_neg hex]; exact hx
 let O2 : Nat → Prop := fun g => (O g ∧ ¬ B g) ∨ HpOf hp' θ' g
 have hO2' : ∀ g, O2 g → O' g := by
  rintro g (⟨h1, h2⟩ | ⟨id, b, v, h1, h2, h3⟩)
  ·exact hO1 g h1 h2
  ·obtain ⟨v', h4, _, h5⟩ := hpre.own id b h1
   rw [h2] at h4; cases h4
   exact (h5 g h3).1
 have hO2O : ∀ g, O2 g → O g ∨ w.heap.size ≤ g := by
  rintro g (⟨h1, h2⟩ | h)
  ·exact .inl h1
  ·rcases hnew g h with h | h
   ·exact .inl (hB g h).1
   ·exact .inr h
 have hO : ∀ b, b < w.heap.size → ¬ O b → ¬ O2 b ∧ w'.heap[b]? = w.heap[b]? := by
  intro b hb hn
  refine ⟨fun h => ?_, he.block b hb (fun h => hn (hB b h).1)⟩
  rcases hO2O b h with h | h
  ·exact hn h
  ·omega
 have hmono' : ∀ b, b < w'.heap.size → ¬ O' b → ¬ O2 b ∧ w'.heap[b]? = w'.heap[b]? := fun b _ hn => ⟨fun h => hn (hO2' b h), rfl⟩
 -- the names of the new state
 have hget : ∀ x b, look x (s.callW hp' L1 drop nx).hp = some b → (∃ j b', x = L1.getD j 0 ∧ look j hp' = some b' ∧ b = b'.map (fun i => L1.getD i 0)) ∨
   (look x s.hp = some b ∧ ∀ v g, θ x = some v → blkOf v = some g → ¬ B g) := by
  intro x b hx
  rcases updW_look hk hdr hx with h | ⟨h1, h2⟩
  ·exact .inl h
  ·refine .inr ⟨h1, ?_⟩
   rintro v g hv hg ⟨i, bi, vi, h3, h4, h5⟩
   exact h2 i bi h3 (hs.inj x _ b _ v vi g h1 (SubH.spec hH i bi (look_mem h3)) hv h4 hg h5)
 refine ⟨O2, θ2, ?_, hO2', hθ1⟩
 refine ⟨hs.size, hs.df, fun t x hx => (hs.fr t x hx).mono he.size hO hθ, ?_, ?_, ?_, ?_, ?_, ?_, ?_, ?_, hs.xlt, hs.llt, ?_, ?_, hs.kp, ?_⟩
 ·intro x b hb
  rcases hget x b hb with ⟨j, b', rfl, h1, rfl⟩ | ⟨h1, h2⟩
  ·obtain ⟨v, hv, hbo, hg⟩ := hpre.own j b' h1
   refine ⟨v, hθ1 j v hv, (hbo.mono (Nat.le_refl _) hmono' (fun _ _ h => h) (fun _ _ => rfl)).mapF _ hθ1, fun g hgg => ?_⟩
   have hh : HpOf hp' θ' g := ⟨j, b', v, h1, hv, hgg⟩
   refine ⟨.inr hh, (hg g hgg).2, ?_, ?_⟩
   ·intro hL
    rcases hnew g hh with h3 | h3
    ·exact (hB g h3).2.2.1 hL
    ·exact Nat.le_trans hs.ext.size h3
   ·intro hX
    rcases hnew g hh with h3 | h3
    ·exact (hB g h3).2.2.2.1 hX
    ·have := hs.xlt g hX; have := hs.ext.size; omega
  ·obtain ⟨v, hv, hbo, hg⟩ := hs.hp x b h1
   refine ⟨v, hθ _ _ hv, hbo.mono he.size hO hθ (fun g hgg => he.block g (hg g hgg).2.1 (h2 v g hv hgg)), fun g hgg => ?_⟩
   obtain ⟨h5, h6, h7⟩ := hg g hgg
   exact ⟨.inl ⟨h5, h2 v g hv hgg⟩, Nat.lt_of_lt_of_le h6 he.size, h7⟩
 ·intro x y bx b_y vx vy g hx hy hvx hvy hgx hgy
  rcases hget x bx hx with ⟨j, b', rfl, h1, rfl⟩ | ⟨h1, h2⟩ <;> rcases hget y b_y hy with ⟨k, b'', rfl, h3, rfl⟩ | ⟨h3, h4⟩
  ·obtain ⟨v1, k1, _, _⟩ := hpre.own j b' h1
   obtain ⟨v2, k2, _, _⟩ := hpre.own k b'' h3
   have e1 := hθ1 j v1 k1
   have e2 := hθ1 k v2 k2
   rw [hvx] at e1; rw [hvy] at e2
   cases e1; cases e2
   rw [hpre.inj j k b' b'' vx vy g h1 h3 k1 k2 hgx hgy]
  ·exfalso
   obtain ⟨v1, k1, _, _⟩ := hpre.own j b' h1
   have e1 := hθ1 j v1 k1
   rw [hvx] at e1; cases e1
   obtain ⟨v2, k2, _, k3⟩ := hs.hp y b_y h3
   have e2 := hθ _ _ k2
   rw [hvy] at e2; cases e2
   rcases hnew g ⟨j, b', vx, h1, k1, hgx⟩ with h5 | h5
   ·exact h4 vy g k2 hgy h5
   ·have := (k3 g hgy).2.1; omega
  ·exfalso
   obtain ⟨v1, k1, _, _⟩ := hpre.own k b'' h3
   have e1 := hθ1 k v1 k1
   rw [hvy] at e1; cases e1
   obtain ⟨v2, k2, _, k3⟩ := hs.hp x bx h1
   have e2 := hθ _ _ k2
   rw [hvx] at e2; cases e2
   rcases hnew g ⟨k, b'', vy, h3, k1, hgy⟩ with h5 | h5
   ·exact h2 vx g k2 hgx h5
   ·have := (k3 g hgx).2.1; omega
  ·obtain ⟨v1, k1, _, _⟩ := hs.hp x bx h1
   obtain ⟨v2, k2, _, _⟩ := hs.hp y b_y h3
   have e1 := hθ _ _ k1
   have e2 := hθ _ _ k2
   rw [hvx] at e1; rw [hvy] at e2
   cases e1; cases e2
   exact hs.inj x y bx b_y vx vy g h1 h3 k1 k2 hgx hgy
 ·intro x v hx
  show x < nx ∧ x ∉ s.free.filter fun x => !(L1.elem x)
  by_cases hex : ∃ j : Nat, L1[j]? = some x
  ·obtain ⟨j, hj⟩ := hex
   have hm : x ∈ L1 := List.mem_of_getElem? hj
   have := List.all_eq_true.1 hnx1 x hm
   refine ⟨by simpa [Nat.blt_eq] using this, ?_⟩
   simp [hm]
  ·have hx' : (if h : ∃ j : Nat, L1[j]? = some x then θ' h.choose else θ x) = some v := hx
   rw [dif_neg hex] at hx'
   obtain ⟨h1, h2⟩ := hs.dom x v hx'
   exact ⟨Nat.lt_of_lt_of_le h1 (Nat.le_of_ble_eq_true hnx), fun h => h2 (List.mem_filter.1 h).1⟩
 ·intro k hk
  exact Nat.lt_of_lt_of_le (hs.flt k (List.mem_filter.1 hk).1) (Nat.le_of_ble_eq_true hnx)
 ·intro x v hx
  by_cases hex : ∃ j : Nat, L1[j]? = some x
  ·obtain ⟨j, hj⟩ := hex
   rw [hθj j x hj] at hx
   exact hpre.one j v hx
  ·have hx' : (if h : ∃ j : Nat, L1[j]? = some x then θ' h.choose else θ x) = some v := hx
   rw [dif_neg hex] at hx'
   exact hs.one x v hx'
 ·intro g hg; exact hO2 g (hO2' g hg)
 ·exact ⟨he.os.trans hs.ext.os, he.tape.trans hs.ext.tape, he.output.trans hs.ext.output, Nat.le_trans hs.ext.size he.size, fun b hb hL =>
   (he.block b (Nat.lt_of_lt_of_le hb hs.ext.size) (fun h => by have := (hB b h).2.2.1 hL; omega)).trans (hs.ext.block b hb hL)⟩
 ·intro g hX
  exact .inl ⟨hs.xo g hX, fun h => (hB g h).2.2.2.1 hX⟩
 ·intro d hd
  obtain ⟨D, rfl, hD, hOD, h0⟩ := hs.marks d hd
  have hnB : ¬ B D := fun h => by obtain ⟨_, _, _, _, _, o, h1, h2⟩ := hB D h; rw [hD] at h1; cases h1; cases h2
  have hlt : D < w.heap.size := hs.olt D hOD
  exact ⟨D, rfl, by rw [he.block D hlt hnB]; exact hD, .inl ⟨hOD, hnB⟩, h0⟩
 ·intro g hg hlt
  rcases hO2O g hg with h | h
  ·exact hs.oc g h hlt
  ·have := hs.ext.size; omega
 ·refine c.Jst hs.jn ⟨he.os, he.tape, he.output, he.size, fun b hb hn => he.block b hb (fun h => hn.elim (fun h1 => h1 (.inr (.inl (hB b h).2.2.2.2.1))) (fun h1 => h1 (hB b h).1)), hO2O, fun g h1 h2 => .inl ⟨h1, fun h => h2 (.inr (.inl (hB g h).2.2.2.2.1))⟩, fun g hg => hO2 g (hO2' g hg), fun g hI => ?_⟩
  rcases hI with hI | ⟨x, b, v, h1, h2, h3⟩ | hI
  ·exact .inl (.inl hI)
  ·rcases hget x b h1 with ⟨j, b', rfl, h4, rfl⟩ | ⟨h4, h5⟩
   ·obtain ⟨v1, k1, _, _⟩ := hpre.own j b' h4
    have e1 := hθ1 j v1 k1
    rw [h2] at e1; cases e1
    rcases hnew g ⟨j, b', v, h4, k1, h3⟩ with h6 | h6
    ·exact .inl (.inr (.inl (hB g h6).2.2.2.2.1))
    ·exact .inr h6
   ·obtain ⟨v1, k1, _, _⟩ := hs.hp x b h4
    have e1 := hθ _ _ k1
    rw [h2] at e1; cases e1
    exact .inl (.inr (.inl ⟨x, b, v, h4, k1, h3⟩))
  ·exact .inl (.inr (.inr hI))
theorem op_callW {fo : Operand} {xs : List Operand} {ts : Array TypeId} {f : Nat} {fa : AV} {asx caps args : List AV} {hp hp' : List (Nat × Option Blk)} {n n' : Nat} {kb : List (Nat × Nat)} {rs : List AV} (L0 L1 drop : List Nat) (nx : Nat) (ho : o.op = .call { callee := .value fo, args := xs.toArray, argTypes := ts }) (hf : ev s fo = some fa) (hx : evl s xs = some asx)
  (hfa : capsOf fa = some (f, caps)) (hcat : asx ++ caps = AV.mapL (fun i => L0.getD i s.next) args) (hB : callB P f = true) (h : FnW G P f args hp n kb rs hp' n') (hn0 : L0.length = n) (hnd0 : L0.Nodup) (hH : SubH s.hp (fun i => L0.getD i s.next) hp)
  (hn1 : L1.length = n') (hnd1 : L1.Nodup) (hfr : FrL s L0 kb 0 L1) (hk : keysB hp' n' = true) (hdr : dropB hp hp' (fun i => L0.getD i s.next) (fun i => L1.getD i 0) drop = true) (hnx : Nat.ble s.next nx = true) (hnx1 : L1.all (fun x => Nat.blt x nx) = true)
  (hd : o.dst = d) (hn : dOk s d = true) : OpOk ro P c o s ((s.callW hp' L1 drop nx).put d (some ((topW rs).map (fun i => L1.getD i 0)))) := by
 rintro a w ⟨O, θ, hs⟩ K Q hK
 obtain ⟨e1, e2⟩ := evl_ok hs hx
 have hfv := ev_ok hs hf
 have hnone : θ s.next = none := by
  cases h : θ s.next with
  | none => rfl
  | some v => have := (hs.dom _ _ h).1; omega
 have hcaps : ∃ us : Array Value, a.eval fo = .func (.func f) #[] us ∧ us.size = caps.length ∧ ∀ (i : Nat) (x : AV) (u : Value), caps[i]? = some x → us[i]? = some u → RdA w O θ x u := by
  generalize hfe : a.eval fo = fv at hfv
  cases hfv with
  | fn f' caps' us h1 h2 =>
   simp only [capsOf, Option.some.injEq, Prod.mk.injEq] at hfa
   obtain ⟨rfl, rfl⟩ := hfa
   exact ⟨us, rfl, h1, h2⟩
  | pv p _ h1 =>
   cases h1 with
   | fn f' caps' us h1 h2 =>
    simp only [capsOf, Option.some.injEq, Prod.mk.injEq] at hfa
    obtain ⟨rfl, rfl⟩ := hfa
    refine ⟨us, rfl, by simpa using h1, fun i x u hx hu => ?_⟩
    rw [List.getElem?_map, Option.map_eq_some_iff] at hx
    obtain ⟨p, hp, rfl⟩ := hx
    exact .pv _ _ (h2 i p u hp hu)
   | _ => simp [capsOf] at hfa
  | _ => simp [capsOf] at hfa
 obtain ⟨us, hfe, hus, hcr⟩ := hcaps
 refine ⟨fun f _ => trivial, ?_⟩
 have hrun : (execOp a.eval o).run P w = .ok (.enter f ((xs.map a.eval).toArray ++ us)) w := by
  simp [execOp, ho, resolve, Deferred.ofValue, hfe, invoke, callB_spec hB]
 rw [Oper.semAt_plain _ _ _ (by rw [ho]; intro k h; cases h), hrun]
 refine ⟨fun h => by simp [FF, Fence.wide] at h, ?_⟩
 have hlen : asx.length + caps.length = args.length := by
  have := congrArg List.length hcat
  rw [List.length_append, AV.mapL_length] at this
  exact this
 have harg : ∀ (i : Nat) (x : AV) (u : Value), (asx ++ caps)[i]? = some x → ((xs.map a.eval).toArray ++ us)[i]? = some u → RdA w O θ x u := by
  intro i x u hx hu
  rw [List.getElem?_append] at hx
  split at hx
  ·rename_i hi
   rw [Array.getElem?_append_left (by simp; omega)] at hu
   exact e2 i x u hx (by simpa using hu)
  ·rename_i hi
   rw [Array.getElem?_append_right (by simp; omega)] at hu
   refine hcr _ x u hx ?_
   have : (xs.map a.eval).toArray.size = asx.length := by simpa using e1
   rw [this] at hu
   exact hu
 have hlt0 : ∀ i v, θ (L0.getD i s.next) = some v → L0[i]? = some (L0.getD i s.next) := by
  intro i v hv
  rw [List.getD_eq_getElem?_getD] at hv ⊢
  cases h : L0[i]? with
  | none => rw [h] at hv; simp only [Option.getD_none] at hv; rw [hnone] at hv; cases hv
  | some y => rfl
 have hpre : PreW w O (fun i => θ (L0.getD i s.next)) hp n := by
  refine ⟨fun i b hb => ?_, fun i j bi bj vi vj g hi hj hvi hvj hgi hgj => ?_, fun i v hv => ?_, fun i v hv => hs.one _ v hv⟩
  ·obtain ⟨v, h1, h2, h3⟩ := hs.hp _ _ (SubH.spec hH i b (look_mem hb))
   exact ⟨v, h1, h2.ren _ (fun _ _ h => h), fun g hg => ⟨(h3 g hg).1, (h3 g hg).2.1⟩⟩
  ·have := hs.inj _ _ _ _ vi vj g (SubH.spec hH i bi (look_mem hi)) (SubH.spec hH j bj (look_mem hj)) hvi hvj hgi hgj
   have h1 := hlt0 i vi hvi
   have h2 := hlt0 j vj hvj
   rw [this] at h1
   exact nodup_inj hnd0 i j _ h1 h2
  ·have := hlt0 i v hv
   have := (List.getElem?_eq_some_iff.1 this).1
   omega
 have hcall := h w O (fun i => θ (L0.getD i s.next)) ((xs.map a.eval).toArray ++ us) hs.olt (c.JG hs.jn) hpre (by
   have : (xs.map a.eval).toArray.size = asx.length := by simpa using e1
   rw [Array.size_append, this, hus]; exact hlen) (fun i x v hx hv => by
  refine RdA.ren (fun i => L0.getD i s.next) (fun _ _ h => h) (harg i (x.map _) v ?_ hv) x rfl
  rw [hcat, AV.mapL_get, hx]; rfl)
 refine CallsIn.mono (callsIn_wide (n := 0 - 1).2 hcall) ?_
 rintro e w' ⟨v, O', θ', rfl, he, hO1, hO2, hO3, hpre', hnew, hkb, hr⟩
 obtain ⟨O2, θ2, g1, g2, g3⟩ := sim_of_callW hs L0 L1 drop nx hn0 hH hn1 hnd1 hfr hk hdr hnx hnx1 he hO1 hO2 hO3 hpre' hnew hkb
 subst hd
 refine hK _ _ ⟨O2, θ2, g1.put _ _ _ (dOk_lt hn) (dOk_kt hn) ?_⟩
 exact (hr.mono (Nat.le_refl _) (fun b _ hn => ⟨fun h => hn (g2 b h), rfl⟩) (fun _ _ h => h)).mapF _ g3
theorem FnW.nils {P : Program} {f n n' : Nat} {args : List AV} {hp hp' : List (Nat × Option Blk)} {kb : List (Nat × Nat)} {rs : List AV} (i sz : Nat) (hi : args[i]? = some (.pv (.vs sz []))) (h : FnW G P f args hp n kb rs hp' n') : FnW G P f (args.set i (.pv .nils)) hp n kb rs hp' n' := by
 intro w O θ vs h1 hG h2 h3 h4
 refine h w O θ vs h1 hG h2 (by rw [h3, List.length_set]) fun j x v hx hv => ?_
 by_cases hji : j = i
 ·subst hji
  rw [hi] at hx; cases hx
  have hl : j < args.length := (List.getElem?_eq_some_iff.1 hi).1
  have := h4 j (.pv .nils) v (by rw [List.getElem?_set_self hl]) hv
  have h5 := rda_pv this
  cases h5
  exact .pv _ _ (Rd.vs0 sz)
 ·exact h4 j x v (by rw [List.getElem?_set_ne (fun e => hji e.symm)]; exact hx) hv
end
end Go.Abs

/- Short words for the walks; regions that draw their order, walked step by step. -/
namespace Go.Abs
variable {G : List (Nat × List PV)}
open Go.RowKit
abbrev bxv (l : List PV) : List AV := l.map AV.pv
section
variable {ro : Option Nat} {P : Program} {c : Cx G} {Q : Exit → Act → World → Prop} {s : St}
def DrW (ro : Option Nat) (P : Program) (c : Cx G) (Q : Exit → Act → World → Prop) (s : St) (id : Nat) (l : List Oper) (n : Nat) (df : List Deferred) (next ys : Nat) (kt : List Nat) (m0 : Mid) (es : List Eff) (rest : List Oper) (m : Mid) : Prop :=
 (∃ pre, l = pre ++ rest ∧ ∀ rest' es', OpFacts ro P c l n df next ys kt rest' es' → OpFacts ro P c l n df next ys kt (pre ++ rest') (es.reverse ++ es')) → (∀ es', TextOk es' m → TextOk (es.reverse ++ es') m0) →
  runP (fun _ => true) 0 es.reverse m0 = m → AW ro P c (.region id l.toArray true) Q s
theorem runP_snoc (p : Nat → Bool) : ∀ (es : List Eff) (k : Nat) (m : Mid) (e : Eff), (∀ j, p j = true) → runP p k (es ++ [e]) m = e.apply (runP p k es m)
 | [], k, m, e, h => by simp [runP, h]
 | e' :: es, k, m, e, h => by
  simp only [List.cons_append, runP, h, cond_true]
  exact runP_snoc p es (k + 1) _ e h
theorem dr_start {id n next ys : Nat} {kt : List Nat} {df : List Deferred} {l : List Oper} (m0 : Mid) (_hs0 : s = m0.st n df next ys kt) (h : DrW ro P c Q s id l n df next ys kt m0 [] l m0) : AW ro P c (.region id l.toArray true) Q s :=
 h ⟨[], rfl, fun _ _ h => h⟩ (fun _ h => h) rfl
theorem dr_cons {id n next ys : Nat} {kt : List Nat} {df : List Deferred} {l rest : List Oper} {o : Oper} {m0 m : Mid} {es : List Eff} (e : Eff) (hf : ∀ m : Mid, Has e m → StepOk ro P c l o (m.st n df next ys kt) ((e.apply m).st n df next ys kt)) (ht : Has e m)
  (h : DrW ro P c Q s id l n df next ys kt m0 (e :: es) rest (e.apply m)) : DrW ro P c Q s id l n df next ys kt m0 es (o :: rest) m := by
 rintro ⟨pre, h1, h2⟩ h3 h4
 refine h ⟨pre ++ [o], by rw [h1]; simp, fun rest' es' h5 => ?_⟩ (fun es' h5 => ?_) ?_
 ·rw [List.reverse_cons, List.append_assoc, List.append_assoc]
  exact h2 (o :: rest') (e :: es') ⟨hf, h5⟩
 ·rw [List.reverse_cons, List.append_assoc]
  exact h3 (e :: es') ⟨ht, h5⟩
 ·rw [List.reverse_cons, runP_snoc _ _ _ _ _ (fun _ => rfl), h4]
theorem dr_nil {id n next ys : Nat} {kt : List Nat} {df : List Deferred} {l : List Oper} {m0 m : Mid} {es : List Eff} (hm : P.follows .mixedOrders = true) (hs0 : s = m0.st n df next ys kt) (hB : orderB l es.reverse = true) (h : Post c Q .normal (m.st n df next ys kt)) : DrW ro P c Q s id l n df next ys kt m0 es [] m := by
 rintro ⟨pre, h1, h2⟩ h3 h4
 have hF := h2 [] [] trivial
 have hT := h3 [] trivial
 rw [List.append_nil] at h1 hT
 rw [List.append_nil, List.append_nil, ← h1] at hF
 exact aw_drawn es.reverse m0 hm hs0 hF hT hB (by rw [h4]; exact h)
section
variable {id n next ys : Nat} {kt : List Nat} {df : List Deferred} {l rest : List Oper} {o : Oper} {m0 m : Mid} {es : List Eff}
theorem dru {j d : Nat} {want : Bool} (h : DrW ro P c Q s id l n df next ys kt m0 ({ need := [(d, .tup [])], dst := o.dst, val := some (.tup []) } :: es) rest (({ need := [(d, .tup [])], dst := o.dst, val := some (.tup []) } : Eff).apply m))
  (hg : o.guard = some (j, want) := by exact rfl) (hj : ((l[j]?).bind (·.dst)) = some d := by exact rfl) (hn : Nat.blt d n = true := by exact rfl) (hl : look d m.fr = some (.tup []) := by exact rfl) (hk : ktB (m.st n df next ys kt) o.dst = true := by exact rfl) :
  DrW ro P c Q s id l n df next ys kt m0 es (o :: rest) m :=
 dr_cons { need := [(d, .tup [])], dst := o.dst, val := some (.tup []) } (fun m' h => step_off (guard_undef hg hj hn h.1.1) hk (by cases o.dst <;> rfl)) ⟨⟨hl, trivial⟩, trivial, trivial⟩ h
theorem dro_f {j d : Nat} {t : Bool} (ht : t = false) (h : DrW ro P c Q s id l n df next ys kt m0 ({ need := [(d, .pv (.bool t))], dst := o.dst, val := some (.tup []) } :: es) rest (({ need := [(d, .pv (.bool t))], dst := o.dst, val := some (.tup []) } : Eff).apply m))
  (hg : o.guard = some (j, true) := by exact rfl) (hj : ((l[j]?).bind (·.dst)) = some d := by exact rfl) (hn : Nat.blt d n = true := by exact rfl) (hl : look d m.fr = some (.pv (.bool t)) := by exact rfl) (hk : ktB (m.st n df next ys kt) o.dst = true := by exact rfl) :
  DrW ro P c Q s id l n df next ys kt m0 es (o :: rest) m :=
 dr_cons { need := [(d, .pv (.bool t))], dst := o.dst, val := some (.tup []) } (fun m' h => step_off (guard_off hg hj hn h.1.1 ht) hk (by cases o.dst <;> rfl)) ⟨⟨hl, trivial⟩, trivial, trivial⟩ h
theorem dro_t {j d : Nat} {t : Bool} (ht : t = true) (h : DrW ro P c Q s id l n df next ys kt m0 ({ need := [(d, .pv (.bool t))], dst := o.dst, val := some (.tup []) } :: es) rest (({ need := [(d, .pv (.bool t))], dst := o.dst, val := some (.tup []) } : Eff).apply m))
  (hg : o.guard = some (j, false) := by exact rfl) (hj : ((l[j]?).bind (·.dst)) = some d := by exact rfl) (hn : Nat.blt d n = true := by exact rfl) (hl : look d m.fr = some (.pv (.bool t)) := by exact rfl) (hk : ktB (m.st n df next ys kt) o.dst = true := by exact rfl) :
  DrW ro P c Q s id l n df next ys kt m0 es (o :: rest) m :=
 dr_cons { need := [(d, .pv (.bool t))], dst := o.dst, val := some (.tup []) } (fun m' h => step_off (guard_off hg hj hn h.1.1 ht) hk (by cases o.dst <;> rfl)) ⟨⟨hl, trivial⟩, trivial, trivial⟩ h
theorem drm {t d : Nat} {v : AV} (h : DrW ro P c Q s id l n df next ys kt m0 ({ need := [(t, v)], dst := some d, val := some v } :: es) rest (({ need := [(t, v)], dst := some d, val := some v } : Eff).apply m))
  (hg : o.guard = none := by exact rfl) (ho : o.op = .move (.tmp t) := by exact rfl) (hd : o.dst = some d := by exact rfl) (hl : look t m.fr = some v := by exact rfl) (hk : dOk (m.st n df next ys kt) (some d) = true := by exact rfl) :
  DrW ro P c Q s id l n df next ys kt m0 es (o :: rest) m :=
 dr_cons { need := [(t, v)], dst := some d, val := some v } (fun m' h => step_on (guard_no hg) (op_move ho h.1.1 hd hk) rfl) ⟨⟨hl, trivial⟩, trivial, trivial⟩ h
theorem drpt {t d : Nat} {v : AV} {y z : Operand} {b : Bool} (hb : b = true) (h : DrW ro P c Q s id l n df next ys kt m0 ({ need := [(t, .pv (.bool b))], dst := some d, val := some v } :: es) rest (({ need := [(t, .pv (.bool b))], dst := some d, val := some v } : Eff).apply m))
  (hg : o.guard = none := by exact rfl) (ho : o.op = .pick (.tmp t) y z := by exact rfl) (hd : o.dst = some d := by exact rfl) (hl : look t m.fr = some (.pv (.bool b)) := by exact rfl) (hy : ∀ m' : Mid, ev (m'.st n df next ys kt) y = some v := by exact fun _ => rfl) (hk : dOk (m.st n df next ys kt) (some d) = true := by exact rfl) :
  DrW ro P c Q s id l n df next ys kt m0 es (o :: rest) m :=
 dr_cons { need := [(t, .pv (.bool b))], dst := some d, val := some v } (fun m' h => step_on (guard_no hg) (op_pick_t ho h.1.1 hb (hy m') hd hk) rfl) ⟨⟨hl, trivial⟩, trivial, trivial⟩ h
theorem drpf {t d : Nat} {v : AV} {y z : Operand} {b : Bool} (hb : b = false) (h : DrW ro P c Q s id l n df next ys kt m0 ({ need := [(t, .pv (.bool b))], dst := some d, val := some v } :: es) rest (({ need := [(t, .pv (.bool b))], dst := some d, val := some v } : Eff).apply m))
  (hg : o.guard = none := by exact rfl) (ho : o.op = .pick (.tmp t) y z := by exact rfl) (hd : o.dst = some d := by exact rfl) (hl : look t m.fr = some (.pv (.bool b)) := by exact rfl) (hy : ∀ m' : Mid, ev (m'.st n df next ys kt) z = some v := by exact fun _ => rfl) (hk : dOk (m.st n df next ys kt) (some d) = true := by exact rfl) :
  DrW ro P c Q s id l n df next ys kt m0 es (o :: rest) m :=
 dr_cons { need := [(t, .pv (.bool b))], dst := some d, val := some v } (fun m' h => step_on (guard_no hg) (op_pick_f ho h.1.1 hb (hy m') hd hk) rfl) ⟨⟨hl, trivial⟩, trivial, trivial⟩ h
end
section
variable {all rest : List Oper} {o : Oper} {s' : St}
theorem rgu {j d : Nat} {want : Bool} {d' : Option Nat} (h : RegW ro P c all rest Q (s.put d' (some (.tup [])))) (hg : o.guard = some (j, want) := by exact rfl) (hj : ((all[j]?).bind (·.dst)) = some d := by exact rfl) (hn : Nat.blt d s.n = true := by exact rfl) (hl : look d s.fr = some (.tup []) := by exact rfl) (hd : o.dst = d' := by exact rfl) (hk : ktB s d' = true := by exact rfl) :
  RegW ro P c all (o :: rest) Q s := reg_off (guard_undef hg hj hn hl) hd hk h
theorem rgo_f {j d : Nat} {t : Bool} {d' : Option Nat} (ht : t = false) (h : RegW ro P c all rest Q (s.put d' (some (.tup [])))) (hg : o.guard = some (j, true) := by exact rfl) (hj : ((all[j]?).bind (·.dst)) = some d := by exact rfl) (hn : Nat.blt d s.n = true := by exact rfl) (hl : look d s.fr = some (.pv (.bool t)) := by exact rfl) (hd : o.dst = d' := by exact rfl) (hk : ktB s d' = true := by exact rfl) :
  RegW ro P c all (o :: rest) Q s := reg_off (guard_off hg hj hn hl ht) hd hk h
theorem rgo_t {j d : Nat} {t : Bool} {d' : Option Nat} (ht : t = true) (h : RegW ro P c all rest Q (s.put d' (some (.tup [])))) (hg : o.guard = some (j, false) := by exact rfl) (hj : ((all[j]?).bind (·.dst)) = some d := by exact rfl) (hn : Nat.blt d s.n = true := by exact rfl) (hl : look d s.fr = some (.pv (.bool t)) := by exact rfl) (hd : o.dst = d' := by exact rfl) (hk : ktB s d' = true := by exact rfl) :
  RegW ro P c all (o :: rest) Q s := reg_off (guard_off hg hj hn hl ht) hd hk h
theorem prt {fn : Func} {w0 : World} {O0 : Nat → Prop} {t : Nat} {p : PV} (hr : fn.results = [ResultVar.tmp t].toArray := by exact rfl) (h : look t s.fr = some (.pv p) := by exact rfl) (hc : c = Fn.cx w0 O0 := by exact rfl) : Post c (FnPost P fn w0 O0 [.p p]) .ret s := post_ret hc hr (.cons _ _ _ _ _ (.tmp _ _ h) (.p _) .nil) (.inl rfl)
theorem rgp (ho : OpOk ro P c o s s') (h : RegW ro P c all rest Q s') (hg : o.guard = none := by exact rfl) : RegW ro P c all (o :: rest) Q s := reg_cons (guard_no hg) ho h
theorem rgn {j d : Nat} {want t : Bool} (ht : t = want) (ho : OpOk ro P c o s s') (h : RegW ro P c all rest Q s') (hg : o.guard = some (j, want) := by exact rfl) (hj : ((all[j]?).bind (·.dst)) = some d := by exact rfl) (hn : Nat.blt d s.n = true := by exact rfl) (hl : look d s.fr = some (.pv (.bool t)) := by exact rfl) : RegW ro P c all (o :: rest) Q s :=
 reg_cons (guard_on hg hj hn hl ht) ho h
theorem rmv {x : Operand} {v : AV} {d : Option Nat} (h : RegW ro P c all rest Q (s.put d (some v))) (hg : o.guard = none := by exact rfl) (ho : o.op = .move x := by exact rfl) (hx : ev s x = some v := by exact rfl) (hd : o.dst = d := by exact rfl) (hk : dOk s d = true := by exact rfl) :
  RegW ro P c all (o :: rest) Q s := reg_cons (guard_no hg) (op_move ho hx hd hk) h
theorem ras {x : Operand} {v : AV} {d : Option Nat} (h : RegW ro P c all rest Q (s.put d (some v))) (hg : o.guard = none := by exact rfl) (ho : o.op = .assign x := by exact rfl) (hx : ev s x = some v := by exact rfl) (hd : o.dst = d := by exact rfl) (hk : dOk s d = true := by exact rfl) :
  RegW ro P c all (o :: rest) Q s := reg_cons (guard_no hg) (op_assign ho hx hd hk) h
theorem rpt {x y z : Operand} {b : Bool} {v : AV} {d : Option Nat} (hb : b = true) (h : RegW ro P c all rest Q (s.put d (some v))) (hg : o.guard = none := by exact rfl) (ho : o.op = .pick x y z := by exact rfl) (hx : ev s x = some (.pv (.bool b)) := by exact rfl) (hy : ev s y = some v := by exact rfl) (hd : o.dst = d := by exact rfl) (hk : dOk s d = true := by exact rfl) :
  RegW ro P c all (o :: rest) Q s := reg_cons (guard_no hg) (op_pick_t ho hx hb hy hd hk) h
theorem rpf {x y z : Operand} {b : Bool} {v : AV} {d : Option Nat} (hb : b = false) (h : RegW ro P c all rest Q (s.put d (some v))) (hg : o.guard = none := by exact rfl) (ho : o.op = .pick x y z := by exact rfl) (hx : ev s x = some (.pv (.bool b)) := by exact rfl) (hy : ev s z = some v := by exact rfl) (hd : o.dst = d := by exact rfl) (hk : dOk s d = true := by exact rfl) :
  RegW ro P c all (o :: rest) Q s := reg_cons (guard_no hg) (op_pick_f ho hx hb hy hd hk) h
end
end
end Go.Abs

/- A zero value, written out as a constant, stored. -/
namespace Go.Abs
variable {G : List (Nat × List PV)}
open Go.RowKit
section
variable {ro : Option Nat} {P : Program} {c : Cx G} {s s' : St} {o : Oper} {d : Option Nat}
end
end Go.Abs

/- Bits and quotients of integers; texts and bytes. -/
namespace Go.Abs
variable {G : List (Nat × List PV)}
open Go.RowKit
def bitsI (k : IntKind) (f : BitVec k.bits → BitVec k.bits → BitVec k.bits) (x y : Int) : Int := k.wrap (f (BitVec.ofInt k.bits x) (BitVec.ofInt k.bits y)).toNat
def andI (k : IntKind) (x y : Int) : Int := bitsI k (fun a b => a &&& b) x y
def orI (k : IntKind) (x y : Int) : Int := bitsI k (fun a b => a ||| b) x y
def xorI (k : IntKind) (x y : Int) : Int := bitsI k (fun a b => a ^^^ b) x y
def notI (k : IntKind) (x y : Int) : Int := bitsI k (fun a b => a &&& ~~~b) x y
def intOp2 (op : BinOp) (k : IntKind) (m n : Int) : Option PV :=
 match op with
 | .and => some (.int k (andI k m n))
 | .or => some (.int k (orI k m n))
 | .xor => some (.int k (xorI k m n))
 | .andNot => some (.int k (notI k m n))
 | .quo => if n = 0 then none else some (.int k (k.wrap (m.tdiv n)))
 | .rem => if n = 0 then none else some (.int k (m.tmod n))
 | _ => none
def strL (l : List Int) : List UInt8 := l.map fun n => UInt8.ofNat n.toNat
def bytesL (l : List UInt8) : List Int := l.map fun b => (b.toNat : Int)
theorem quo_op {k : IntKind} {m n : Int} (h : n ≠ 0) : intOp2 .quo k m n = some (.int k (k.wrap (m.tdiv n))) := by simp [intOp2, h]
theorem rem_op {k : IntKind} {m n : Int} (h : n ≠ 0) : intOp2 .rem k m n = some (.int k (m.tmod n)) := by simp [intOp2, h]
section
variable {ro : Option Nat} {P : Program} {c : Cx G} {s s' : St} {o : Oper} {d : Option Nat}
theorem op_int2 {op : BinOp} {T T' : TypeId} {x y : Operand} {k : IntKind} {m n : Int} {r : PV} (ho : o.op = .binOp op T x y T') (hx : ev s x = some (.pv (.int k m))) (hy : ev s y = some (.pv (.int k n)))
  (hr : intOp2 op k m n = some r) (hd : o.dst = d) (hn : dOk s d = true) : OpOk ro P c o s (s.put d (some (.pv r))) :=
 opOk_value hd hn (by rw [ho]; intro k h; cases h) fun a w O θ hs => by
  have e1 := ev_int hs hx
  have e2 := ev_int hs hy
  cases op <;> simp only [intOp2, Option.some.injEq, reduceCtorEq] at hr
  case quo =>
   split at hr
   ·cases hr
   ·rename_i h0
    cases hr
    exact ⟨_, by simp [execOp, ho, eqGuard, binOp, e1, e2, Op.intDiv, h0], .pv _ _ (.int _ _)⟩
  case rem =>
   split at hr
   ·cases hr
   ·rename_i h0
    cases hr
    exact ⟨_, by simp [execOp, ho, eqGuard, binOp, e1, e2, Op.intDiv, h0], .pv _ _ (.int _ _)⟩
  all_goals subst hr
  all_goals exact ⟨_, by simp [execOp, ho, eqGuard, binOp, e1, e2, Op.intBits, andI, orI, xorI, notI, bitsI], .pv _ _ (.int _ _)⟩
theorem rd_bytes {w : World} {O : Nat → Prop} {l : List Int} {v : Value} (h : Rd w O (.vs 1 (l.map fun b => [.int .u8 b])) v) :
  ∃ a cap, v = .slice a l.length cap ∧ (l = [] ∨ ∃ g off, a = some ⟨g, off, none⟩ ∧ ∀ k b, l[k]? = some b → w.cell? ⟨g, off + k, none⟩ = some (.int .u8 b)) := by
 generalize hr : (l.map fun b => [PV.int .u8 b]) = rows at h
 cases h with
 | vsz sz a cap h0 hm =>
  have : l = [] := by simpa using hr
  subst this
  exact ⟨a, cap, rfl, .inl rfl⟩
 | vs sz rows b off cap us h1 h2 h3 h4 h5 h6 h7 h8 =>
  refine ⟨some ⟨b, off, none⟩, cap, by rw [← hr]; simp, .inr ⟨b, off, rfl, fun k x hk => ?_⟩⟩
  have hrow : rows[k]? = some [.int .u8 x] := by rw [← hr, List.getElem?_map, hk]; rfl
  have hlt : k < rows.length := (List.getElem?_eq_some_iff.1 hrow).1
  have := h8 k 0 _ _ hrow rfl
  rw [h7 k (by omega)]
  have e : us (k * 1 + 0) = us k := by simp
  rw [e] at this
  generalize us k = u at this
  cases this; rfl
theorem push_all : ∀ (l : List Int) (acc : ByteArray), l.foldl (fun r n => r.push (UInt8.ofNat n.toNat)) acc = ⟨acc.data ++ (strL l).toArray⟩
 | [], acc => by simp [strL]
 | b :: l, acc => by
  rw [List.foldl_cons, push_all l]
  simp [ByteArray.push, strL]
theorem op_bytesStr {T T' e : TypeId} {x : Operand} {l : List Int} {E : Int → List PV} (ho : o.op = .convert T T' x) (hx : ev s x = some (.pv (.vs 1 (l.map E)))) (hE : E = fun b => [.int .u8 b]) (hs0 : P.underlying T = some (.slice e)) (he : P.underlying e = some (.int .u8)) (hd0 : P.underlying T' = some .string)
  (hd : o.dst = d) (hn : dOk s d = true) : OpOk ro P c o s (s.put d (some (.pv (.str (strL l))))) :=
 opOk_value hd hn (by rw [ho]; intro k h; cases h) fun a w O θ hs => by
  subst hE
  obtain ⟨ad, cap, hv, h⟩ := rd_bytes (ev_pv hs hx)
  refine ⟨.string ⟨(strL l).toArray⟩, ?_, .pv _ _ (.str _)⟩
  have hrun : (convert T T' (.slice ad l.length cap)).run P w = .ok (.string ⟨(strL l).toArray⟩) w := by
   rw [run_convert_bytes_string w T T' e ad l.length cap hs0 he hd0]
   rcases h with rfl | ⟨g, off, rfl, h⟩
   ·cases ad with
    | none => simp [Conv.bytesToString, Sem.run_pure]; rfl
    | some a0 =>
     have := run_bytesToString (P := P) w a0 0 cap [] (by simp [loadCells, loadCellsFrom, Sem.run_pure])
     simp only [List.foldl_nil] at this
     exact this
   ·have h1 := run_loadCells_list (P := P) w ⟨g, off, none⟩ (l.map fun b => Value.int .u8 b) (fun j v hj => by
     rw [List.getElem?_map, Option.map_eq_some_iff] at hj
     obtain ⟨b, hb, rfl⟩ := hj
     have := h j b hb
     simp only [Addr.add]
     split
     ·rename_i h0; subst h0; simpa using this
     ·simpa using this)
    rw [List.length_map] at h1
    have h2 := run_bytesToString (P := P) w ⟨g, off, none⟩ l.length cap l (by rw [h1])
    rw [push_all] at h2
    simpa using h2
  simp [execOp, ho, hv, hrun]
end
end Go.Abs

/- Package variables: an array of known elements. -/
namespace Go.Abs
variable {G : List (Nat × List PV)}
open Go.RowKit
section
variable {ro : Option Nat} {P : Program} {c : Cx G} {s s' : St} {o : Oper} {d : Option Nat}
end
end Go.Abs

/- An array of a box, as a slice that is copied into. -/
namespace Go.Abs
variable {G : List (Nat × List PV)}
open Go.RowKit
section
variable {ro : Option Nat} {P : Program} {c : Cx G} {s s' : St} {o : Oper} {d : Option Nat}
end
end Go.Abs

/- Functions of Go's library, by the contracts of the kit's shelf. -/
namespace Go.Abs
variable {G : List (Nat × List PV)}
open Go.RowKit
theorem grown_of_below {w w' : World} (h : Below w.heap.size w w') : w.grownBy w' none := ⟨h.os, h.tape, h.output, h.size, fun k hk _ => h.block k hk⟩
theorem rd_str {w : World} {O : Nat → Prop} {s : List UInt8} {v : Value} (h : Rd w O (.str s) v) : v = .string ⟨s.toArray⟩ := by cases h; rfl
theorem vs2 {vs : Array Value} (h : vs.size = 2) : ∃ a b, vs = #[a, b] := by
 obtain ⟨l⟩ := vs
 match l, h with
 | [a, b], _ => exact ⟨a, b, rfl⟩
def joinF (xs : List (List UInt8)) (sep : List UInt8) : Option (List UInt8) := if xs.length ≤ 140737488355328 ∧ (Lib.join xs sep).length ≤ 140737488355328 then some (Lib.join xs sep) else none
theorem fn_join {P : Program} {f : Nat} (h0 : ∀ (a : Option Addr) (c : Nat) (sep : ByteArray) (w : World), Calls P f #[.slice a 0 c, .string sep] w fun e w' => e = .returned (.string ⟨#[]⟩) ∧ w' = w)
  (h1 : ∀ (bk o c : Nat) (xs : List ByteArray) (sep : ByteArray) (w : World), (∀ (j : Nat) x, xs[j]? = some x → w.cell? ⟨bk, o + j, none⟩ = some (.string x)) → bk < w.heap.size → xs.length ≤ 140737488355328 → xs.length ≤ c → (Lib.join (xs.map (·.data.toList)) sep.data.toList).length ≤ 140737488355328 →
   Calls P f #[.slice (some ⟨bk, o, none⟩) xs.length c, .string sep] w fun e w' => e = .returned (.string ⟨(Lib.join (xs.map (·.data.toList)) sep.data.toList).toArray⟩) ∧ Below w.heap.size w w')
  {xs : List (List UInt8)} {sep r : List UInt8} (hr : joinF xs sep = some r) : Fn G P f [.vs 1 (xs.map eS), .str sep] [.p (.str r)] := by
 intro w O vs hO _ hsz hrd
 obtain ⟨v0, v1, rfl⟩ := vs2 hsz
 have e0 := hrd 0 _ v0 rfl rfl
 have e1 := rd_str (hrd 1 _ v1 rfl rfl)
 subst e1
 unfold joinF at hr
 split at hr
 ·rename_i hb
  cases hr
  rcases rd_vs e0 with ⟨a, cap, rfl, hx, _, _⟩ | ⟨b, off, cap, us, rfl, hb1, hb2, hb3, hb4, hb5, hb6, hb7, hb8⟩
  ·have hx' : xs = [] := by simpa using hx
   subst hx'
   refine (h0 a cap _ w).mono ?_
   rintro e w' ⟨rfl, rfl⟩
   exact ⟨_, O, rfl, World.grownBy.refl _ _, fun _ h => h, Rd.str []⟩
  ·have hl : (xs.map eS).length = (xs.map fun x => (⟨x.toArray⟩ : ByteArray)).length := by simp
   have hmm : (xs.map fun x => (⟨x.toArray⟩ : ByteArray)).map (·.data.toList) = xs := by
    rw [List.map_map]
    refine (List.map_congr_left fun x _ => ?_).trans (List.map_id xs)
    simp
   rw [hl]
   refine (h1 b off cap (xs.map fun x => (⟨x.toArray⟩ : ByteArray)) ⟨sep.toArray⟩ w ?_ hb2 (by simpa using hb.1) (by simpa using hb3) (by rw [hmm]; simpa using hb.2)).mono ?_
   ·intro j x hj
    rw [List.getElem?_map, Option.map_eq_some_iff] at hj
    obtain ⟨y, hy, rfl⟩ := hj
    have hlt : j < xs.length := (List.getElem?_eq_some_iff.1 hy).1
    rw [hb7 j (by simp; omega)]
    have := hb8 j 0 (eS y) (.str y) (by rw [List.getElem?_map, hy]; rfl) rfl
    rw [Nat.mul_one, Nat.add_zero] at this
    rw [rd_str this]
   ·rintro e w' ⟨rfl, hB⟩
    refine ⟨_, O, rfl, grown_of_below hB, fun _ h => h, ?_⟩
    rw [hmm]
    exact Rd.str _
 ·cases hr
end Go.Abs

/- A row of the call's own, cut short; zeros behind nil; what a nil slice has room for. -/
namespace Go.Abs
variable {G : List (Nat × List PV)}
open Go.RowKit
section
variable {ro : Option Nat} {P : Program} {c : Cx G} {s s' : St} {o : Oper} {d : Option Nat}
end
end Go.Abs
namespace Go.Abs
end Go.Abs
namespace Go.Abs
variable {G : List (Nat × List PV)}
open Go.RowKit
section
variable {ro : Option Nat} {P : Program} {c : Cx G} {s s' : St} {o : Oper} {d : Option Nat}
end
end Go.Abs
namespace Go.Abs
end Go.Abs

/- A box that holds a function which holds that box: a function that calls itself by its own variable. -/
namespace Go.Abs
variable {G : List (Nat × List PV)}
open Go.RowKit
end Go.Abs

/- Calls that hand back a pointer into the caller's box; the complement of a number. -/
namespace Go.Abs
variable {G : List (Nat × List PV)}
open Go.RowKit
section
variable {ro : Option Nat} {P : Program} {c : Cx G} {s s' : St} {o : Oper} {d : Option Nat}
end
end Go.Abs

/- Texts that are built piece by piece: strings.Builder. -/
namespace Go.Abs
variable {G : List (Nat × List PV)}
open Go.RowKit
section
variable {P : Program}
theorem run_append_strW {w : World} {t u ty e : TypeId} {i : TypeInfo} (ht : P.underlying t = some (.slice e)) (hu : P.underlying u = some .string) (hi : P.info? e = some i) (hz : i.zero = some (.int .u8 0))
  (hsize : i.size = 1) (hby : i.bytes = 1) {v : Value} {n : Nat} {xs : List Value} (hown : ownsW w e 1 v n xs) (s : ByteArray) (hbytes : n + s.size ≤ 140737488355328) :
  ∃ v' w', (Builtin.append_ #[t, u] ty #[v, .string s]).run P w = .ok v' w' ∧ ownsW w' e 1 v' (n + s.size) (xs ++ Lib.strCells s) ∧ w.grownBy w' (blkOf v) ∧ (blkOf v' = blkOf v ∨ blkOf v' = some w.heap.size) := by
 have h63 : n + s.size ≤ maxLen := by unfold maxLen; omega
 have hsmall : n + s.size ≤ 9223372036854775807 := by omega
 have hxl : xs.length = n := by simpa using hown.1
 have hlen : (xs ++ Lib.strCells s).length = (n + s.size) * 1 := by rw [List.length_append, hxl, Lib.strCells_length, Nat.mul_one]
 rcases hown.2 with ⟨rfl, rfl⟩ | ⟨g, cap, cur, rfl, _, hg, hnc, hcm, hcs, htake⟩
 ·have hx : xs = [] := List.eq_nil_of_length_eq_zero hxl
  subst hx
  obtain ⟨v', w', h1, h2, h3, h4⟩ := Lib.run_append_own_string (P := P) w 0 t u ty e i ht hu hi hz hsize hby (.slice none 0 0) 0 [] (World.ownsRow_nil w 0 e 1) s h63 hbytes (Nat.zero_le _)
  refine ⟨v', w', h1, ?_, h3, ?_⟩
  ·refine ⟨h2.1, ?_⟩
   rcases h2.2 with h | ⟨g, cap, cur, r1, _, r2, r3, r4, r5, r6⟩
   ·exact .inl h
   ·exact .inr ⟨g, cap, cur, r1, trivial, r2, r3, r4, by omega, r6⟩
  ·rcases h2.2 with ⟨rfl, _⟩ | ⟨g, cap, cur, rfl, _, r2, _⟩
   ·exact .inl rfl
   ·by_cases hm : s.size = 0
    ·exact absurd (h4.2 ⟨rfl, hm⟩) (by simp)
    ·right
     have hr := Go.run_append_nil_string (P := P) w t u ty e i (.int .u8 0) ht hu hi hz s (by omega) (by omega) (by rw [hby]; omega)
     rw [h1] at hr
     injection hr with hr1 hr2
     injection hr1 with hr3 hr4
     rw [hr3]; rfl
 ·by_cases hroom : n + s.size ≤ cap
  ·have hcs' : cap ≤ cur.size := by simpa using hcs
   have hr := Lib.run_append_room_string (P := P) w t u ty e i ht hu hi hsize g n cap cur hg s hroom (by omega)
   refine ⟨_, _, hr, ⟨hlen, .inr ⟨g, cap, _, rfl, trivial, setRow_heap w g cur _ e _ hg, hroom, hcm, ?_, ?_⟩⟩, ⟨rfl, rfl, rfl, by simp, fun k _ hk => setRow_other w g k _ (fun e => hk (by simp [blkOf, e]))⟩, .inl rfl⟩
   ·simp only [List.size_toArray, List.length_append, List.length_take, List.length_drop, Array.length_toList, Lib.strCells_length]
    omega
   ·have ht' : cur.toList.take n = xs := by simpa using htake
    rw [ht', ← hlen]
    exact List.take_left
  ·have holds : ∀ j u, xs[j]? = some u → w.cell? ((⟨g, 0, none⟩ : Addr).add j) = some u := hown.cells (g := g) rfl
   have hr := Lib.run_append_grow_string (P := P) w t u ty e i (.int .u8 0) ht hu hi hz ⟨g, 0, none⟩ n cap xs (by rw [hsize]; simpa using hxl) holds s (by omega) (by omega) (by rw [hby]; exact growslice_fits (by omega) (by omega))
   have hge := grownCap_ge w (n + s.size) cap e
   have hcm2 : grownCap w (n + s.size) cap e ≤ maxLen := grownCap_le_maxLen w (n + s.size) cap e h63
   refine ⟨_, _, hr, ⟨hlen, .inr ⟨w.heap.size, _, _, rfl, trivial, heap_alloc_new w.drew _, hge, hcm2, ?_, ?_⟩⟩, ⟨rfl, rfl, rfl, by simp, fun k hk _ => Lib.alloc_old w.drew _ k hk⟩, .inr rfl⟩
   ·have hz1 : (Value.int IntKind.u8 0).cells.size = 1 := rfl
    simp only [Array.size_append, List.size_toArray, size_zeroCells, hz1, hxl, Lib.strCells_length]
    omega
   ·simp only [Array.toList_append, List.append_assoc]
    rw [← List.append_assoc, ← hlen]
    exact List.take_left
theorem wpList_append_strW {w : World} {ops : Array Oper} {rest : List Oper} {o : Oper} {a : Act} {Q : Exit → Act → World → Prop} (hgd : o.guard = none) (sl x : Operand) (t u : TypeId)
  (ho : o.op = .call { callee := .builtin .append, args := #[sl, x], argTypes := #[t, u] }) (e : TypeId) (i : TypeInfo) (ht : P.underlying t = some (.slice e)) (hu : P.underlying u = some .string) (hi : P.info? e = some i)
  (hz : i.zero = some (.int .u8 0)) (hsize : i.size = 1) (hby : i.bytes = 1) (v : Value) (n : Nat) (xs : List Value) (hs : a.eval sl = v) (hown : ownsW w e 1 v n xs) (s : ByteArray) (hx : a.eval x = .string s)
  (hbytes : n + s.size ≤ 140737488355328)
  (h : ∀ v' w', ownsW w' e 1 v' (n + s.size) (xs ++ Lib.strCells s) → w.grownBy w' (blkOf v) → (blkOf v' = blkOf v ∨ blkOf v' = some w.heap.size) → wpList P ops Q rest (a.put o.dst v') w') : wpList P ops Q (o :: rest) a w := by
 refine wpList_plain hgd fun K hK => ?_
 obtain ⟨v', w', hr, h2, h3, h4⟩ := run_append_strW (ty := o.type) ht hu hi hz hsize hby hown s hbytes
 unfold Oper.wp execOp
 simp only [ho, resolve, invoke, builtin, Sem.run_bind, Sem.run_pure, Result.andThen_ok, List.map_toArray, List.map_cons, List.map_nil, hs, hx, hr]
 exact hK _ _ (h v' w' h2 h3 h4)
end
theorem ownsW.kept {w w' : World} {e : TypeId} {sz n : Nat} {v : Value} {xs : List Value} {row : Option Nat} (h : ownsW w e sz v n xs) (hg : w.grownBy w' row) (hne : ∀ g, blkOf v = some g → some g ≠ row) : ownsW w' e sz v n xs := by
 refine ⟨h.1, ?_⟩
 rcases h.2 with hn | ⟨g, cap, cur, rfl, _, hgg, rest⟩
 ·exact .inl hn
 ·refine .inr ⟨g, cap, cur, rfl, trivial, ?_, rest⟩
  rw [hg.block g (Array.getElem?_eq_some_iff.1 hgg).1 (hne g rfl)]
  exact hgg
structure BldFr (b : Nat) (v : Value) (w w' : World) : Prop where
 os : w'.os = w.os
 tape : w'.tape = w.tape
 output : w'.output = w.output
 size : w.heap.size ≤ w'.heap.size
 block : ∀ k, k < w.heap.size → k ≠ b → blkOf v ≠ some k → w'.heap[k]? = w.heap[k]?
theorem bldFr_drew (b : Nat) (v : Value) (w : World) : BldFr b v w w.drew := ⟨rfl, rfl, rfl, Nat.le_refl _, fun _ _ _ _ => rfl⟩
theorem bldFr_alloc (b : Nat) (v : Value) (w : World) (o : Obj) : BldFr b v w (w.drew.alloc o) := ⟨rfl, rfl, rfl, by show w.heap.size ≤ (w.heap.push o).size; simp, fun k hk _ _ => Lib.alloc_old w.drew o k hk⟩
theorem bldFr_alloc' (b : Nat) (v : Value) (w : World) (o : Obj) : BldFr b v w (w.alloc o).drew := ⟨rfl, rfl, rfl, by show w.heap.size ≤ (w.heap.push o).size; simp, fun k hk _ _ => Lib.alloc_old w.drew o k hk⟩
theorem bldFr_freeze {b g : Nat} {v : Value} (w : World) (n off : Nat) (h : blkOf v = some g) : BldFr b v w (w.drew.freeze ⟨g, off, none⟩ n) := by
 unfold World.freeze
 split
 ·exact bldFr_drew b v w
 ·exact ⟨rfl, rfl, rfl, by show w.heap.size ≤ (w.heap.modify _ _).size; simp, fun k hk _ h2 => by
   simp only [Array.getElem?_modify]
   rw [if_neg (by intro e; exact h2 (by rw [h, e]))]; rfl⟩
theorem setCell_at {w : World} {b j : Nat} {p v u : Value} {T : TypeId} (h : w.heap[b]? = some (.cells #[p, v] T (0, 0))) : (w.setCell ⟨b, 1, none⟩ u).heap[b]? = some (.cells #[p, u] T (0, 0)) := by
 simp [World.setCell, Array.getElem?_modify, h]
theorem setCell_grown (w : World) (b j : Nat) (u : Value) : w.grownBy (w.setCell ⟨b, j, none⟩ u) (some b) := ⟨rfl, rfl, rfl, by simp [World.setCell], fun k _ hk => Below.heap_setCell _ _ _ _ (fun e => hk (by simp [e]))⟩
theorem setCell_at0 {w : World} {b : Nat} {p v u : Value} {T : TypeId} (h : w.heap[b]? = some (.cells #[p, v] T (0, 0))) : (w.setCell ⟨b, 0, none⟩ u).heap[b]? = some (.cells #[u, v] T (0, 0)) := by
 simp [World.setCell, Array.getElem?_modify, h]
theorem ownsW_ne {w : World} {e T : TypeId} {sz n b : Nat} {v : Value} {xs : List Value} {cs : Array Value} (h : ownsW w e sz v n xs) (hb : w.heap[b]? = some (.cells cs T (0, 0))) (hne : T ≠ e) : blkOf v ≠ some b := by
 rcases h.2 with ⟨rfl, _⟩ | ⟨g, cap, cur, rfl, _, hg, _⟩
 ·simp [blkOf]
 ·intro h1
  simp only [blkOf, Option.some.injEq] at h1
  subst h1
  rw [hg] at hb
  simp only [Option.some.injEq, Obj.cells.injEq] at hb
  exact hne hb.2.1.symm
theorem rows_u8 {w : World} {O : Nat → Prop} : ∀ {x : List Int} {us : List Value}, RowsRd w O 1 (x.map fun b => [PV.int .u8 b]) us → us = x.map (.int .u8) := by
 intro x us h
 have hl : us.length = x.length := by have := h.len; simpa using this
 apply List.ext_getElem?
 intro j
 by_cases hj : j < x.length
 ·have hu : us[j]? = some us[j] := List.getElem?_eq_getElem (by omega)
  have := h.rd j 0 [PV.int .u8 x[j]] (PV.int .u8 x[j]) us[j] (by rw [List.getElem?_map, List.getElem?_eq_getElem hj]; rfl) rfl (by simp)
  rw [hu, List.getElem?_map, List.getElem?_eq_getElem hj]
  generalize us[j] = z at this
  cases this
  rfl
 ·rw [List.getElem?_eq_none (by omega), List.getElem?_eq_none (by simp; omega)]
theorem u8_rows (w : World) (O : Nat → Prop) (x : List Int) : RowsRd w O 1 (x.map fun b => [PV.int .u8 b]) (x.map (.int .u8)) where
 len := by simp
 hz := fun row hr => by obtain ⟨b, _, rfl⟩ := List.mem_map.1 hr; rfl
 one := fun row hr c hc => by obtain ⟨b, _, rfl⟩ := List.mem_map.1 hr; simp at hc; subst hc; rfl
 rd := fun i j row c u h1 h2 h3 => by
  rw [List.getElem?_map, Option.map_eq_some_iff] at h1
  obtain ⟨b, hb, rfl⟩ := h1
  cases j with
  | succ j => simp at h2
  | zero =>
   simp at h2
   subst h2
   rw [Nat.mul_one, Nat.add_zero, List.getElem?_map, hb] at h3
   cases h3
   exact .int _ _
structure BldAt (w : World) (O : Nat → Prop) (θ : Nat → Option Value) (B : TypeId) (x : List Int) (g : Nat) (p v : Value) : Prop where
 t0 : θ 0 = some (.pointer (some ⟨g, 0, none⟩))
 t1 : θ 1 = some v
 heap : w.heap[g]? = some (.cells #[p, v] B (0, 0))
 self : p = .pointer none ∨ p = .pointer (some ⟨g, 0, none⟩)
 own : ownsW w 5 1 v x.length (x.map (.int .u8))
 og : O g
 ov : ∀ k, blkOf v = some k → O k ∧ k < w.heap.size
theorem bldAt_of {w : World} {O : Nat → Prop} {θ : Nat → Option Value} {B : TypeId} {x : List Int} (h : PreW w O θ [(0, some (.box B [.bp 0, .ls 1])), (1, some (.row 5 1 (x.map fun b => [PV.int .u8 b])))] 2) : ∃ g p v, BldAt w O θ B x g p v := by
 obtain ⟨v0, h0, ⟨g, us, rfl, hg, hs, hc⟩, ho⟩ := h.own 0 _ rfl
 obtain ⟨v1, h1, ⟨us1, hw, hr⟩, ho1⟩ := h.own 1 _ rfl
 obtain ⟨p, v, rfl⟩ := vs2 hs
 have e0 := (hc 0 _ p rfl rfl).1
 have e1 := (hc 1 _ v rfl rfl).1
 have hv : v = v1 := by
  cases e1 with
  | ls _ _ h => rw [h1] at h; cases h; rfl
 subst hv
 refine ⟨g, p, v, h0, h1, hg, ?_, ?_, (ho g rfl).1, ho1⟩
 ·cases e0 with
  | bp0 _ => exact .inl rfl
  | bp1 _ g' h => rw [h0] at h; cases h; exact .inr rfl
 ·have := rows_u8 hr
  rw [← this]
  simpa using hw
theorem fnW_bld {P : Program} {f B : Nat} (hB : B ≠ 5) (xa : AV) (xv : Value) (hx : ∀ (w : World) (O : Nat → Prop) (θ : Nat → Option Value) v, RdA w O θ xa v → v = xv) (news : List Int) (rs : List AV) (res : Value)
  (hres : ∀ (w : World) (O : Nat → Prop) (θ : Nat → Option Value), RdA w O θ (topW rs) res)
  (raw : ∀ (b n : Nat) (p v : Value) (xs : List Value) (w : World), w.heap[b]? = some (.cells #[p, v] B (0, 0)) → (p = .pointer none ∨ p = .pointer (some ⟨b, 0, none⟩)) → ownsW w 5 1 v n xs → n + news.length ≤ 140737488355328 →
   Calls P f #[.pointer (some ⟨b, 0, none⟩), xv] w fun e w' => e = .returned res ∧ ∃ v', w'.heap[b]? = some (.cells #[.pointer (some ⟨b, 0, none⟩), v'] B (0, 0)) ∧ ownsW w' 5 1 v' (n + news.length) (xs ++ news.map (.int .u8)) ∧
    (blkOf v' = blkOf v ∨ ∃ g, blkOf v' = some g ∧ w.heap.size ≤ g) ∧ BldFr b v w w') {x : List Int} (hlen : x.length + news.length ≤ 140737488355328) :
  FnW G P f [.lp 0 0, xa] [(0, some (.box B [.bp 0, .ls 1])), (1, some (.row 5 1 (x.map fun b => [PV.int .u8 b])))] 2 [(0, 0)] rs [(0, some (.box B [.bp 0, .ls 1])), (1, some (.row 5 1 ((x ++ news).map fun b => [PV.int .u8 b])))] 2 := by
 intro w O θ vs hO _ hpre hsz hrd
 obtain ⟨g, p, v, hb⟩ := bldAt_of hpre
 obtain ⟨a0, a1, rfl⟩ := vs2 hsz
 have e0 := hrd 0 _ a0 rfl rfl
 have e1 := hx _ _ _ _ (hrd 1 _ a1 rfl rfl)
 subst e1
 have ha0 : a0 = .pointer (some ⟨g, 0, none⟩) := by
  cases e0 with
  | lp _ _ g' h => rw [hb.t0] at h; cases h; rfl
 subst ha0
 refine (raw g x.length p v _ w hb.heap hb.self hb.own hlen).mono ?_
 rintro e w' ⟨rfl, v', hh, hown, hblk, hfr⟩
 have hgl : g < w.heap.size := (Array.getElem?_eq_some_iff.1 hb.heap).1
 have hnv' : blkOf v' ≠ some g := ownsW_ne hown hh hB
 have hv'lt : ∀ k, blkOf v' = some k → k < w'.heap.size := by
  intro k hk
  rcases hown.2 with ⟨rfl, _⟩ | ⟨g', cap, cur, rfl, _, hg', _⟩
  ·simp [blkOf] at hk
  ·simp only [blkOf, Option.some.injEq] at hk
   subst hk
   exact (Array.getElem?_eq_some_iff.1 hg').1
 have hv'one : v'.oneCell' = true := by
  rcases hown.2 with ⟨rfl, _⟩ | ⟨g', cap, cur, rfl, _, _⟩ <;> rfl
 have hH0 : HpOf [(0, some (.box B [.bp 0, .ls 1])), (1, some (.row 5 1 (x.map fun b => [PV.int .u8 b])))] θ g := ⟨0, _, _, rfl, hb.t0, rfl⟩
 have hH1 : ∀ k, blkOf v = some k → HpOf [(0, some (.box B [.bp 0, .ls 1])), (1, some (.row 5 1 (x.map fun b => [PV.int .u8 b])))] θ k := fun k hk => ⟨1, _, _, rfl, hb.t1, hk⟩
 refine ⟨res, fun k => O k ∨ blkOf v' = some k, fun i => if i = 0 then some (.pointer (some ⟨g, 0, none⟩)) else if i = 1 then some v' else none, rfl, ⟨hfr.os, hfr.tape, hfr.output, hfr.size, fun k hk hn => hfr.block k hk (fun e => hn (e ▸ hH0)) (fun e => hn (hH1 k e))⟩,
  fun k hk _ => .inl hk, ?_, ?_, ?_, ?_, ?_, hres _ _ _⟩
 ·rintro k (hk | hk)
  ·exact Nat.lt_of_lt_of_le (hO k hk) hfr.size
  ·exact hv'lt k hk
 ·rintro k (hk | hk) hlt
  ·exact hk
  ·rcases hblk with h | ⟨g', h, hge⟩
   ·exact (hb.ov k (by rw [← h]; exact hk)).1
   ·rw [hk] at h; cases h; omega
 ·refine ⟨fun id bk hid => ?_, fun i j bi bj vi vj k hi hj h1 h2 h3 h4 => ?_, fun id v2 hv => ?_, fun id v2 hv => ?_⟩
  ·by_cases h0 : id = 0
   ·subst h0
    cases hid
    refine ⟨_, rfl, ⟨g, #[.pointer (some ⟨g, 0, none⟩), v'], rfl, hh, rfl, fun j c u hc hu => ?_⟩, fun k hk => ?_⟩
    ·match j, hc, hu with
     | 0, hc, hu => cases hc; cases hu; exact ⟨.bp1 0 g rfl, rfl⟩
     | 1, hc, hu => cases hc; cases hu; exact ⟨.ls 1 _ rfl, hv'one⟩
    ·cases hk; exact ⟨.inl hb.og, Nat.lt_of_lt_of_le hgl hfr.size⟩
   ·by_cases h1 : id = 1
    ·subst h1
     cases hid
     refine ⟨v', rfl, ⟨(x ++ news).map (.int .u8), ?_, u8_rows _ _ _⟩, fun k hk => ⟨.inr hk, hv'lt k hk⟩⟩
     rw [List.length_map, List.length_append, List.map_append]
     exact hown
    ·simp [look, Nat.beq_eq, h0, h1, Ne.symm h0, Ne.symm h1] at hid
     cases id with
     | zero => exact absurd rfl h0
     | succ id => cases id with
      | zero => exact absurd rfl h1
      | succ id => simp [Nat.beq] at hid
  ·have hi2 : ∀ (i : Nat) (b : Blk), look i ([(0, some (.box B [.bp 0, .ls 1])), (1, some (.row 5 1 ((x ++ news).map fun b => [PV.int .u8 b])))] : List (Nat × Option Blk)) = some b → i = 0 ∨ i = 1 := by
    intro i b hi
    cases i with
    | zero => exact .inl rfl
    | succ i => cases i with
     | zero => exact .inr rfl
     | succ i => simp [look, Nat.beq] at hi
   rcases hi2 i bi hi with rfl | rfl <;> rcases hi2 j bj hj with rfl | rfl
   ·rfl
   ·cases h1; cases h2; cases h3; exact absurd h4 hnv'
   ·cases h1; cases h2; cases h4; exact absurd h3 hnv'
   ·rfl
  ·show id < 2
   by_cases h0 : id = 0
   ·omega
   ·by_cases h1 : id = 1
    ·omega
    ·simp [h0, h1] at hv
  ·by_cases h0 : id = 0
   ·subst h0; cases hv; rfl
   ·by_cases h1 : id = 1
    ·subst h1; cases hv; exact hv'one
    ·simp [h0, h1] at hv
 ·rintro k ⟨id, bk, v2, h1, h2, h3⟩
  by_cases h0 : id = 0
  ·subst h0; cases h2; cases h3; exact .inl hH0
  ·by_cases h1' : id = 1
   ·subst h1'
    cases h2
    rcases hblk with h | ⟨g', h, hge⟩
    ·exact .inl (hH1 k (by rw [← h]; exact h3))
    ·rw [h3] at h; cases h; exact .inr hge
   ·simp [h0, h1'] at h2
 ·intro ij hij
  simp at hij
  subst hij
  simp [hb.t0]
def strB (x : List Int) : Option (List UInt8) := if x = bytesL (strL x) then some (strL x) else none
theorem strB_bytes (l : List UInt8) : strB (bytesL l) = some l := by
 have h : strL (bytesL l) = l := by
  unfold strL bytesL
  rw [List.map_map]
  conv => rhs; rw [← List.map_id l]
  apply List.map_congr_left
  intro b _
  simp
 unfold strB
 rw [h, if_pos rfl]
theorem fnW_bst {P : Program} {f B : Nat} (raw : ∀ (b : Nat) (p v : Value) (l : List UInt8) (w : World), w.heap[b]? = some (.cells #[p, v] B (0, 0)) → ownsW w 5 1 v l.length (Lib.byteCells l) →
   Calls P f #[.pointer (some ⟨b, 0, none⟩)] w fun e w' => e = .returned (.string ⟨l.toArray⟩) ∧ BldFr b v w w') {x : List Int} {s : List UInt8} (hs : strB x = some s) :
  FnW G P f [.lp 0 0] [(0, some (.box B [.bp 0, .ls 1])), (1, some (.row 5 1 (x.map fun b => [PV.int .u8 b])))] 2 [] [.pv (.str s)] [] 0 := by
 intro w O θ vs hO _ hpre hsz hrd
 obtain ⟨g, p, v, hb⟩ := bldAt_of hpre
 have hx : x = bytesL s := by
  unfold strB at hs
  split at hs
  ·rename_i h; cases hs; exact h
  ·cases hs
 have hown := hb.own
 have hlx : x.length = s.length := by rw [hx]; simp [bytesL]
 have hc : x.map (.int .u8) = Lib.byteCells s := by rw [hx]; simp [bytesL, Lib.byteCells]
 rw [hlx, hc] at hown
 obtain ⟨a0, rfl⟩ : ∃ a0, vs = #[a0] := by
  obtain ⟨l⟩ := vs
  match l, hsz with
  | [a], _ => exact ⟨a, rfl⟩
 have e0 := hrd 0 _ a0 rfl rfl
 have ha0 : a0 = .pointer (some ⟨g, 0, none⟩) := by
  cases e0 with
  | lp _ _ g' h => rw [hb.t0] at h; cases h; rfl
 subst ha0
 refine (raw g p v s w hb.heap hown).mono ?_
 rintro e w' ⟨rfl, hfr⟩
 refine ⟨_, O, fun _ => none, rfl, ⟨hfr.os, hfr.tape, hfr.output, hfr.size, fun k hk hn => hfr.block k hk (fun e => hn (e ▸ ⟨0, _, _, rfl, hb.t0, rfl⟩)) (fun e => hn ⟨1, _, _, rfl, hb.t1, e⟩)⟩,
  fun k hk _ => hk, fun k hk => Nat.lt_of_lt_of_le (hO k hk) hfr.size, fun k hk _ => hk, ⟨fun id b h => (by simp [look] at h), fun i j bi bj vi vj k hi => (by simp [look] at hi), fun id v h => (by cases h), fun id v h => (by cases h)⟩,
  fun k ⟨id, b, v, h, _⟩ => (by simp [look] at h), fun ij h => (by cases h), .pv _ _ (.str _)⟩
theorem imp_bp {c : Cx G} {s : St} (id : Nat) {t : TypeId} {cells : List AV} (hb : look id s.hp = some (.box t (.pv .nilp :: cells))) : Imp c s (s.setBlk id (some (.box t (.bp id :: cells)))) := by
 rintro a w ⟨O, θ, h⟩
 refine ⟨O, θ, ?_⟩
 obtain ⟨v, hv, hbk, _⟩ := h.hp id _ hb
 refine h.upd (w' := w) hb hv (World.grownBy.refl _ _) ?_
 obtain ⟨g, us, rfl, h1, h2, h3⟩ := hbk
 refine ⟨g, us, rfl, h1, by simpa using h2, fun j x u hx hu => ?_⟩
 cases j with
 | zero =>
  simp at hx
  subst hx
  have := (h3 0 _ u rfl hu)
  refine ⟨?_, this.2⟩
  cases this.1 with
  | pv _ _ hp => cases hp; exact .bp0 _
 | succ j => exact h3 (j + 1) x u (by simpa using hx) hu
end Go.Abs

/- Values that hold rows of the call's own among their cells. -/
namespace Go.Abs
variable {G : List (Nat × List PV)}
open Go.RowKit
structure ReadsA (w : World) (O : Nat → Prop) (θ : Nat → Option Value) (us : List Value) (cells : List AV) : Prop where
 len : us.length = cells.length
 one : ∀ (j : Nat) (u : Value), us[j]? = some u → u.oneCell' = true
 rd : ∀ (j : Nat) (c : AV) (u : Value), cells[j]? = some c → us[j]? = some u → RdA w O θ c u
theorem ReadsA.agg {w : World} {O : Nat → Prop} {θ : Nat → Option Value} {us : List Value} {cells : List AV} (h : ReadsA w O θ us cells) : RdA w O θ (.agg cells) (.agg us.toArray) :=
 .agg _ _ (by simpa using h.len) (fun j u hu => h.one j u (by simpa using hu)) (fun j c u hc hu => h.rd j c u hc (by simpa using hu))
theorem ReadsA.cut {w : World} {O : Nat → Prop} {θ : Nat → Option Value} {us : List Value} {cells : List AV} (h : ReadsA w O θ us cells) (k n : Nat) : ReadsA w O θ ((us.drop k).take n) ((cells.drop k).take n) where
 len := by rw [List.length_take, List.length_take, List.length_drop, List.length_drop, h.len]
 one := fun j u hu => by
  rw [List.getElem?_take] at hu
  split at hu
  ·rw [List.getElem?_drop] at hu; exact h.one _ u hu
  ·cases hu
 rd := fun j c u hc hu => by
  rw [List.getElem?_take] at hc hu
  split at hc
  ·rename_i hj
   rw [if_pos hj, List.getElem?_drop] at hu
   rw [List.getElem?_drop] at hc
   exact h.rd _ c u hc hu
  ·cases hc
theorem ReadsA.splice {w : World} {O : Nat → Prop} {θ : Nat → Option Value} {us vs : List Value} {ps qs : List AV} {k : Nat} (h : ReadsA w O θ us ps) (h' : ReadsA w O θ vs qs) (hk : k + qs.length ≤ ps.length) : ReadsA w O θ (Go.Abs.splice us k vs) (Go.Abs.splice ps k qs) := by
 have hk' : k + vs.length ≤ us.length := by rw [h'.len, h.len]; exact hk
 refine ⟨by rw [splice_length _ _ _ hk', splice_length _ _ _ hk]; exact h.len, fun j u hu => ?_, fun j p u hp hu => ?_⟩
 ·rw [splice_get _ _ _ hk'] at hu
  split at hu
  ·exact h'.one _ u hu
  ·exact h.one _ u hu
 ·rw [splice_get _ _ _ hk] at hp
  rw [splice_get _ _ _ hk', h'.len] at hu
  split at hp
  ·rename_i hj; rw [if_pos hj] at hu; exact h'.rd _ p u hp hu
  ·rename_i hj; rw [if_neg hj] at hu; exact h.rd _ p u hp hu
theorem readsA_of_pv {w : World} {O : Nat → Prop} {θ : Nat → Option Value} {us : List Value} {ps : List PV} (h : Reads1 w O us ps) (h1 : ∀ (j : Nat) (u : Value), us[j]? = some u → u.oneCell' = true) : ReadsA w O θ us (ps.map .pv) where
 len := by simpa using h.1
 one := h1
 rd := fun j c u hc hu => by
  rw [List.getElem?_map, Option.map_eq_some_iff] at hc
  obtain ⟨p, hp, rfl⟩ := hc
  exact .pv _ _ (h.2.2 j p u hp hu)
def fillAV (place : List (Nat × Nat)) : List AV → List (Nat × AV) → Option (List AV)
 | cells, [] => some cells
 | cells, (i, v) :: vs => match place[i]? with
  | some (off, size) => bif Nat.beq v.cells.length size && (v.cellish && Nat.ble (off + v.cells.length) cells.length) then fillAV place (splice cells off v.cells) vs else none
  | none => none
section
variable {ro : Option Nat} {P : Program} {c : Cx G} {s s' : St} {o : Oper} {d : Option Nat}
theorem freshG_free {k : Nat} (h : s.free.elem k = true) : freshG s k = true := by simp only [freshG, h, Bool.or_true]
theorem op_load_lp_aggM {T n : Nat} {x : Operand} {id k : Nat} {t : TypeId} {cells cs : List AV} (ho : o.op = .load T x) (hx : ev s x = some (.lp id k)) (hb : look id s.hp = some (.box t cells))
  (hc : (cells.drop k).take n = cs) (hl : cs.length = n) (ht : aggB P T n = true) (hd : o.dst = d) (hn : dOk s d = true) :
  OpOk ro P c o s (s.put d (some (.agg cs))) :=
 opOk_value hd hn (by rw [ho]; intro k h; cases h) fun a w O θ hs => by
  have h := ev_ok hs hx
  generalize hv : a.eval x = u at h
  cases h with
  | lp _ _ g h =>
   obtain ⟨v', hv', ⟨g', us, he, h1, h2, h3⟩, _⟩ := hs.hp id _ hb
   rw [h] at hv'; cases hv'
   cases he
   have hR : ReadsA w O θ us.toList cells := ⟨by simpa using h2, fun j u hu => by
     have hlt : j < cells.length := by rw [← h2]; simpa using (List.getElem?_eq_some_iff.1 hu).1
     exact (h3 j cells[j] u (List.getElem?_eq_getElem hlt) (by simpa using hu)).2, fun j c u hc hu => (h3 j c u hc (by simpa using hu)).1⟩
   have hlen : k + n ≤ us.size ∨ n = 0 := by
    have : ((cells.drop k).take n).length = n := by rw [hc]; exact hl
    rw [List.length_take, List.length_drop, ← h2] at this
    omega
   have hcut := hR.cut k n
   rw [hc] at hcut
   refine ⟨.agg ((us.toList.drop k).take n).toArray, ?_, hcut.agg⟩
   have := run_loadAt_agg (P := P) ht w ⟨g, k, none⟩ ((us.toList.drop k).take n) (by simp; omega) (fun j u hu => ?_)
   ·simp [execOp, ho, hv, this]
   ·rw [List.getElem?_take] at hu
    split at hu
    ·rw [List.getElem?_drop] at hu
     rw [Addr.add_lit, cell_of_row w g _ us t (0, 0) h1]
     simpa using hu
    ·cases hu
theorem fill_okA {place : List (Nat × Nat)} {pf : Nat → Option (Nat × Nat)} (hpf : ∀ i p, place[i]? = some p → pf i = some p) {O : Nat → Prop} {θ : Nat → Option Value} {a : Act} {w : World} (hs : SimAt c s O θ a w) :
  ∀ (parts : List (Nat × Operand)) (xs : List (Nat × AV)) (cells : List AV) (us : Array Value) (r : List AV), EvL w O θ a.eval parts xs → fillAV place cells xs = some r → ReadsA w O θ us.toList cells →
  ∃ us', Instr.fill pf us (parts.map fun (i, x) => (i, a.eval x)) = some us' ∧ ReadsA w O θ us'.toList r
 | [], xs, cells, us, r, h1, h2, h3 => by
  cases xs with
  | cons _ _ => cases h1
  | nil =>
  simp [fillAV] at h2; subst h2
  exact ⟨us, rfl, h3⟩
 | (i, x) :: parts, xs, cells, us, r, h1, h2, h3 => by
  cases xs with
  | nil => cases h1
  | cons xv vs =>
  obtain ⟨i', v⟩ := xv
  obtain ⟨rfl, hv, hvs⟩ := h1
  simp only [fillAV] at h2
  split at h2
  ·rename_i off size hpl
   simp only [cond_eq_ite] at h2
   split at h2
   ·rename_i hc
    simp only [Bool.and_eq_true] at hc
    have hc1 : v.cells.length = size := Nat.eq_of_beq_eq_true hc.1
    have hc2 : off + v.cells.length ≤ cells.length := Nat.le_of_ble_eq_true hc.2.2
    obtain ⟨q1, q2, q3⟩ := AV.cells_ok hv hc.2.1 hs.one
    have hr1 : ReadsA w O θ (a.eval x).cells.toList v.cells := ⟨by simpa using q1, fun j u hu => q2 u (List.mem_of_getElem? hu), fun j c u hc hu => q3 j c u hc (by simpa using hu)⟩
    have hsz : (a.eval x).cells.size = size := by rw [q1, hc1]
    have hus : us.size = cells.length := by have := h3.len; simpa using this
    have hsp := foldl_splice (a.eval x).cells off us (by omega)
    obtain ⟨us', e1, e2⟩ := fill_okA hpf hs parts vs _ ((a.eval x).cells.zipIdx.foldl (fun cs (c, j) => cs.setIfInBounds (off + j) c) us) r hvs h2 (by rw [hsp]; exact h3.splice hr1 hc2)
    refine ⟨us', ?_, e2⟩
    simp only [List.map_cons, Instr.fill, hpf _ _ hpl]
    rw [if_neg (by simp [hsz]; omega)]
    exact e1
   ·cases h2
  ·cases h2
theorem czs_one {vs : List Value} {ps : List PV} (h : czs vs ps) : ∀ (j : Nat) (u : Value), vs[j]? = some u → u.oneCell' = true := by
 obtain ⟨h1, h2⟩ := czs_spec h
 intro j u hu
 have hlt : j < ps.length := by have := (List.getElem?_eq_some_iff.1 hu).1; omega
 exact (cz_one (h2 j _ u (List.getElem?_eq_getElem hlt) hu)).2
theorem op_buildM {T : Nat} {parts : List (Nat × Operand)} {place : List (Nat × Nat)} {z : Value} {zs : List PV} {r : List AV} {xs : List (Nat × AV)} (ho : o.op = .build T parts.toArray) (hz : zeroIs P T z) (hzs : czs z.cells.toList zs) (hpl : placesB P T place = true)
  (hx : evs s parts = some xs) (hr : fillAV place (zs.map .pv) xs = some r) (hd : o.dst = d) (hn : dOk s d = true) : OpOk ro P c o s (s.put d (some (.agg r))) :=
 opOk_value hd hn (by rw [ho]; intro k h; cases h) fun a w O θ hs => by
  obtain ⟨fs, hu, hfs⟩ := placesB_spec hpl
  obtain ⟨us', h1, h2⟩ := fill_okA (place := place) (pf := (place[·]?)) (fun _ _ h => h) hs parts xs (zs.map .pv) z.cells r (EvL.of hs hx) hr (readsA_of_pv (czs_reads1 hzs) (czs_one hzs))
  refine ⟨.agg us', ?_, ?_⟩
  ·have hfs' := hfs w
   simp only [bind_pure_comp] at hfs'
   simp [execOp, ho, Instr.build, (zeroIs_spec hz w).1, run_underlying hu, hfs', h1]
  ·have := h2.agg; simpa using this
end
theorem imp_any {c : Cx G} {s : St} (id off : Nat) {t : TypeId} {cells : List AV} (hb : look id s.hp = some (.box t cells)) : Imp c s (s.setBlk id (some (.box t (cells.set off .any)))) := by
 rintro a w ⟨O, θ, h⟩
 refine ⟨O, θ, ?_⟩
 obtain ⟨v, hv, hbk, _⟩ := h.hp id _ hb
 refine h.upd (w' := w) hb hv (World.grownBy.refl _ _) ?_
 obtain ⟨g, us, rfl, h1, h2, h3⟩ := hbk
 refine ⟨g, us, rfl, h1, by simpa using h2, fun j x u hx hu => ?_⟩
 by_cases hj : off = j
 ·subst hj
  have hlt : off < cells.length := by rw [← h2]; exact (Array.getElem?_eq_some_iff.1 hu).1
  rw [List.getElem?_set_self hlt] at hx
  cases hx
  exact ⟨.any u, (h3 off cells[off] u (List.getElem?_eq_getElem hlt) hu).2⟩
 ·rw [List.getElem?_set_ne hj] at hx
  exact h3 j x u hx hu
end Go.Abs

/- From the arguments' readings to abstract values; a law's row, out of its contract. -/
namespace Go.Abs
variable {G : List (Nat × List PV)}
open Go.ChangeShapes Go.WideShapes Go.ChangeAt Go.RowKit
section
variable {H : Type} (enc : TypeId × Value → H) (P : Program) (w : World)
def DecAt (fuel : Nat) (T : TypeId) {α : Type} (e : α → List PV) (good : α → Prop) : Prop :=
 ∀ (cs : List Value) (x : DataW H × List MemPlace), DataW.trod enc P w 0 (fun _ => true) true fuel T cs = some x → ∃ y, good y ∧ Reads1 w (fun _ => False) cs (e y)
variable {enc P w}
theorem reads1_one {v : Value} {p : PV} (h : Rd w (fun _ => False) p v) (hp : p.one = true) : Reads1 w (fun _ => False) [v] [p] := by
 refine ⟨rfl, by simpa using hp, fun j q u hq hu => ?_⟩
 cases j with
 | zero => simp at hq hu; subst hq; subst hu; exact h
 | succ j => simp at hq
theorem dec_bool {fuel T : Nat} (h : P.underlying T = some .bool) : DecAt enc P w fuel T eB (fun _ => True) := fun cs x hx => by
 obtain ⟨b, rfl, _⟩ := DataW.trod_bool h hx
 exact ⟨b, trivial, reads1_one (.bool b) rfl⟩
def i64ok (n : Int) : Prop := -9223372036854775808 ≤ n ∧ n ≤ 9223372036854775807
theorem dec_int {fuel T : Nat} (h : P.underlying T = some (.int .i64)) : DecAt enc P w fuel T eI i64ok := fun cs x hx => by
 obtain ⟨n, rfl, _, hw⟩ := DataW.trod_int h hx
 exact ⟨n, bounds_i64 hw, reads1_one (.int _ n) rfl⟩
def strok (s : List UInt8) : Prop := s.length ≤ maxLen
def listok {α : Type} (good : α → Prop) (l : List α) : Prop := l.length ≤ maxLen ∧ ∀ y ∈ l, good y
def partsB (P : Program) (T : TypeId) (l : List (TypeId × Nat × Nat)) (n : Nat) : Bool :=
 match P.underlying T with
 | some (.struct fs) => (fs.toList.map (fun f => (f.type, f.offset, P.cellsOf f.type)) == l) && P.cellsOf T == n
 | _ => false
theorem reads_nil {cs : List Value} {off : Nat} (h : cs.length = off) : Reads1 w (fun _ => False) (cs.drop off) [] := by
 rw [List.drop_eq_nil_of_le (by omega)]
 exact ⟨rfl, by simp, fun j p u hp => by simp at hp⟩
theorem reads_cons {cs : List Value} {off sz : Nat} {p q : List PV} (h1 : Reads1 w (fun _ => False) ((cs.drop off).take sz) p) (hp : p.length = sz) (h2 : Reads1 w (fun _ => False) (cs.drop (off + sz)) q) : Reads1 w (fun _ => False) (cs.drop off) (p ++ q) := by
 have e : cs.drop off = (cs.drop off).take sz ++ cs.drop (off + sz) := by
  rw [← List.drop_drop, List.take_append_drop]
 rw [e]
 have hl : ((cs.drop off).take sz).length = sz := by rw [h1.1, hp]
 refine ⟨by rw [List.length_append, List.length_append, h1.1, h2.1], fun x hx => ?_, fun j x u hx hu => ?_⟩
 ·rcases List.mem_append.1 hx with h | h
  ·exact h1.2.1 x h
  ·exact h2.2.1 x h
 ·rw [List.getElem?_append] at hx hu
  rw [hl] at hu; rw [hp] at hx
  split at hx
  ·rename_i hj; rw [if_pos hj] at hu; exact h1.2.2 j x u hx hu
  ·rename_i hj; rw [if_neg hj] at hu; exact h2.2.2 _ x u hx hu
def arrB (P : Program) (T : TypeId) (n E sz : Nat) : Bool :=
 match P.underlying T with
 | some (.array m e) => (m == n && e == E) && (P.cellsOf E == sz && P.cellsOf T == n * sz)
 | _ => false
end
end Go.Abs
namespace Go.Abs
variable {G : List (Nat × List PV)}
theorem reads0 {w : World} {cs : List Value} {p : List PV} (h : Reads1 w (fun _ => False) (cs.drop 0) p) : Reads1 w (fun _ => False) cs p := by simpa using h
end Go.Abs
namespace Go.Abs
variable {G : List (Nat × List PV)}
open Go.ChangeShapes Go.WideShapes Go.ChangeAt Go.RowKit
section
variable {H : Type} {enc : TypeId × Value → H} {P : Program} {w : World}
end
end Go.Abs

/- A law's row, out of its contract. -/
namespace Go.Abs
variable {G : List (Nat × List PV)}
open Go.ChangeShapes Go.WideShapes Go.ChangeAt Go.RowKit
section
variable {H : Type} {enc : TypeId × Value → H} {P : Program}
def readB (P : Program) (ts : List TypeId) : Bool := ts.all fun t => P.readableRec t && decide (t < P.types.size)
theorem trodAll_carry (hl : laidOutB P = true) {W W' : World} (hb : Below W.heap.size W W') : ∀ {ts : List TypeId} {vs : List Value} {ds : List (DataW H)} {ps : List MemPlace}, readB P ts = true → DataW.TrodAll enc P W 0 (fun _ => true) true ts vs ds ps → (∀ x ∈ ps, x.block < W.heap.size) →
  DataW.TrodAll enc P W' 0 (fun b => decide (b < W.heap.size)) true ts vs ds ps
 | [], vs, ds, ps, _, h, _ => by
  obtain ⟨rfl, rfl, rfl⟩ := trodAll_nil h
  rfl
 | t :: ts, vs, ds, ps, hr, h, hlt => by
  obtain ⟨v, vs', d, ds', p, q, rfl, rfl, rfl, h1, h2⟩ := trodAll_cons h
  unfold readB at hr
  rw [List.all_cons] at hr
  simp only [Bool.and_eq_true, decide_eq_true_eq] at hr
  exact ⟨p, q, Below.trod hl hr.1.1 hr.1.2 h1 hb (fun x hx => hlt x (by simp [hx])), trodAll_carry hl hb (by unfold readB; exact hr.2) h2 (fun x hx => hlt x (by simp [hx])), rfl⟩
theorem law_post {f : Func} {s : ChangeSpec} {apart fresh handsOn : Bool} {W W' : World} {args : Array Value} {ds : List (DataW H)} {ps : List MemPlace} {B : TypeId} (hl : laidOutB P = true) (hr : readB P f.params.toList = true) (hvars : s.vars = [])
  (hW : DataW.Whole enc P f.params.toList s.vars apart W args.toList ds [] ps) (hA : DataW.TrodAll enc P W 0 (fun _ => true) true f.params.toList args.toList ds ps) (hg : W.grownBy W' none) (hres : f.resultTypes = #[B]) (hB : P.underlying B = some .bool)
  (hs : s.fn H ds = { results := [.lit (.bool true)], args := ds }) : s.post enc P f apart fresh handsOn false W args (.bool true) W' := by
 have hb : Below W.heap.size W W' := (Below.refl _ W).grown hg (Nat.le_refl _) (by simp)
 have hlt : ∀ x ∈ ps, x.block < W.heap.size := fun x hx => by simpa using hW.lt x hx
 refine ⟨ds, [], ps, [], ps, [], hW, ?_, ?_, ?_, hb.frame _, fun h => by cases h⟩
 ·rw [List.append_nil, hs, hres]
  exact trodAll_mk1 (shut_bool hB true)
 ·rw [List.append_nil, hs]
  exact trodAll_carry hl hb hr hA hlt
 ·rw [List.append_nil, hs, hvars]
  rfl
def ArgsRd (W : World) (asx : List PV) (args : Array Value) : Prop := args.size = asx.length ∧ ∀ (i : Nat) (p : PV) (v : Value), asx[i]? = some p → args[i]? = some v → Rd W (fun _ => False) p v
end
def RdAll (W : World) : List PV → List Value → Prop
 | [], [] => True
 | p :: ps, v :: vs => Rd W (fun _ => False) p v ∧ RdAll W ps vs
 | _, _ => False
theorem RdAll.args {W : World} : ∀ {asx : List PV} {vs : List Value}, RdAll W asx vs → vs.length = asx.length ∧ ∀ (i : Nat) (p : PV) (v : Value), asx[i]? = some p → vs[i]? = some v → Rd W (fun _ => False) p v
 | [], [], _ => ⟨rfl, fun i p v h => by simp at h⟩
 | p :: ps, v :: vs, h => by
  obtain ⟨h1, h2⟩ := h.2.args
  refine ⟨by simp [h1], fun i q u hq hu => ?_⟩
  cases i with
  | zero => simp at hq hu; subst hq; subst hu; exact h.1
  | succ i => exact h2 i q u (by simpa using hq) (by simpa using hu)
 | [], _ :: _, h | _ :: _, [], h => by simp [RdAll] at h
theorem argsRd_all {W : World} {xs : List PV} {args : Array Value} (h : RdAll W xs args.toList) : ArgsRd W xs args := by
 obtain ⟨h1, h2⟩ := h.args
 exact ⟨by simpa using h1, fun i p v hp hv => h2 i p v hp (by simpa using hv)⟩
def oneT (P : Program) (T : TypeId) : Bool := match P.underlying T with
 | some .bool | some (.int _) | some .string | some (.slice _) => true
 | _ => false
theorem arg_one {W : World} {P : Program} {base : Nat} {T : TypeId} {v : Value} {p : PV} (h : Reads1 W (fun _ => False) v.cells.toList [p]) (hv : Value.okWide P W .any base T v) (ht : oneT P T = true) : Rd W (fun _ => False) p v := by
 have : v.cells.toList = [v] := by
  unfold oneT at ht
  unfold Value.okWide at hv
  split at hv
  ·rename_i hu; rw [hu] at ht; cases ht
  ·rename_i hu; rw [hu] at ht; cases ht
  ·unfold Cell.okWide at hv
   cases v <;> first | rfl | skip
   all_goals
    exfalso
    revert hv
    split <;> simp_all [Cell.ok]
    try (split <;> simp_all)
 rw [this] at h
 exact h.2.2 0 p v rfl rfl
end Go.Abs

/- A law's row whose package variables are listed, out of its contract. -/
namespace Go.Abs
variable {G : List (Nat × List PV)}
open Go.ChangeShapes Go.WideShapes Go.ChangeAt Go.RowKit
section
variable {P : Program} {w : World}
end
section
variable {H : Type} {enc : TypeId × Value → H} {P : Program}
end
end Go.Abs

/- Functions that are handed yield on; shifts; maps in boxes that are written no more. -/
namespace Go.Abs
variable {G : List (Nat × List PV)}
open Go.RowKit
structure ItFx (c : Cx G) (w : World) (O I : Nat → Prop) : Prop where
 w0 : c.w0 = w
 X : c.X = I
 K : c.K = I
 L : c.L = fun g => O g ∧ ¬ I g
section
variable {ro : Option Nat} {P : Program} {c : Cx G} {s s' : St} {o : Oper} {d : Option Nat}
end
end Go.Abs

/- Steps that often come together. -/
namespace Go.Abs
variable {G : List (Nat × List PV)}
open Go.RowKit
def pickF {α : Type} (fr : List (Nat × Option α)) : List (Nat × Option α) → List (Nat × Option α)
 | [] => []
 | (t, none) :: l => (t, none) :: pickF fr l
 | (t, some _) :: l => (t, look t fr) :: pickF fr l
def renF (ρ : Nat → Nat) : List (Nat × Option AV) → List (Nat × Option AV)
 | [] => []
 | (t, none) :: l => (t, none) :: renF ρ l
 | (t, some x) :: l => (t, some (x.map ρ)) :: renF ρ l
def pickH (fr : List (Nat × Option Blk)) (ρ : Nat → Nat) : List (Nat × Option Blk) → List (Option Blk)
 | [] => []
 | (_, none) :: l => none :: pickH fr ρ l
 | (t, some _) :: l => look (ρ t) fr :: pickH fr ρ l
def renH (ρ : Nat → Nat) : List (Nat × Option Blk) → List (Option Blk)
 | [] => []
 | (_, none) :: l => none :: renH ρ l
 | (_, some x) :: l => some (x.map ρ) :: renH ρ l
theorem subF_of {fr : List (Nat × Option AV)} {ρ : Nat → Nat} : ∀ {l : List (Nat × Option AV)}, pickF fr l = renF ρ l → SubF fr ρ l
 | [], _ => trivial
 | (_, none) :: l, h => by simp only [pickF, renF, List.cons.injEq] at h; exact subF_of (l := l) h.2
 | (_, some _) :: l, h => by
  simp only [pickF, renF, List.cons.injEq, Prod.mk.injEq] at h
  exact ⟨h.1.2, subF_of (l := l) h.2⟩
theorem subH_of {fr : List (Nat × Option Blk)} {ρ : Nat → Nat} : ∀ {l : List (Nat × Option Blk)}, pickH fr ρ l = renH ρ l → SubH fr ρ l
 | [], _ => trivial
 | (_, none) :: l, h => by simp only [pickH, renH, List.cons.injEq] at h; exact subH_of (l := l) h.2
 | (_, some _) :: l, h => by
  simp only [pickH, renH, List.cons.injEq] at h
  exact ⟨h.1, subH_of (l := l) h.2⟩
section
variable {ro : Option Nat} {P : Program} {c : Cx G} {Q : Exit → Act → World → Prop} {s : St} {all : List Oper} {e : Exit}
theorem impz {s s' : St} (L : List Nat) (hF : pickF s.fr s'.fr = renF (fun i => L.getD i s.next) s'.fr := by kernel_rfl) (hH : pickH s.hp (fun i => L.getD i s.next) s'.hp = renH (fun i => L.getD i s.next) s'.hp := by kernel_rfl)
  (hn : s'.n = s.n := by exact rfl) (hnd : L.Nodup := by decide) (hnext : s'.next = L.length := by exact rfl) (hfree : s'.free = [] := by exact rfl)
  (hids : (s'.hp.all fun x => Nat.blt x.1 L.length) = true := by exact rfl) (hys : s'.ys = s.ys := by exact rfl) (hkt : s'.kt = s.kt := by exact rfl) : Imp c s s' := imp_sub L hn hnd hnext hfree (subF_of hF) (subH_of hH) hids hys hkt
theorem piz (s' : St) (L : List Nat) (h' : Post c Q e s') (hF : pickF s.fr s'.fr = renF (fun i => L.getD i s.next) s'.fr := by kernel_rfl) (hH : pickH s.hp (fun i => L.getD i s.next) s'.hp = renH (fun i => L.getD i s.next) s'.hp := by kernel_rfl)
  (hn : s'.n = s.n := by exact rfl) (hnd : L.Nodup := by decide) (hnext : s'.next = L.length := by exact rfl) (hfree : s'.free = [] := by exact rfl)
  (hids : (s'.hp.all fun x => Nat.blt x.1 L.length) = true := by exact rfl) (hys : s'.ys = s.ys := by exact rfl) (hkt : s'.kt = s.kt := by exact rfl) : Post c Q e s := post_imp (imp_sub L hn hnd hnext hfree (subF_of hF) (subH_of hH) hids hys hkt) h'
class FldI (P : Program) (T f : Nat) (off : outParam Nat) : Prop where
 h : fieldB P T f off = true
class OneI (P : Program) (T : Nat) : Prop where
 h : oneB P T = true
class SlcI (P : Program) (T : Nat) (e sz : outParam Nat) : Prop where
 h : sliceB P T e sz = true
class AggI (P : Program) (T : Nat) (n : outParam Nat) : Prop where
 h : aggB P T n = true
 h0 : oneB P T = false
section
variable {rest : List Oper} {o : Oper} {s' : St} {d : Option Nat}
theorem gf_lp {T f off : Nat} {x : Operand} {id k : Nat} [F : FldI P T f off] (ho : o.op = .fieldAddr T x f) (hx : ev s x = some (.lp id k)) (hd : o.dst = d) (hn : dOk s d = true) : OpOk ro P c o s (s.put d (some (.lp id (k + off)))) := op_field_lp ho hx F.h hd hn
theorem gf_vp {T f off : Nat} {x : Operand} {row : List PV} [F : FldI P T f off] (ho : o.op = .fieldAddr T x f) (hx : ev s x = some (.pv (.vp row))) (hd : o.dst = d) (hn : dOk s d = true) : OpOk ro P c o s (s.put d (some (.pv (.vp (row.drop off))))) := op_field_vp ho hx F.h hd hn
theorem gl_lp {T : Nat} {x : Operand} {id k : Nat} {t : TypeId} {cells : List AV} {v : AV} [F : OneI P T] (ho : o.op = .load T x) (hx : ev s x = some (.lp id k)) (hb : look id s.hp = some (.box t cells)) (hc : cells[k]? = some v) (hd : o.dst = d) (hn : dOk s d = true) : OpOk ro P c o s (s.put d (some v)) := op_load_lp ho hx hb hc F.h hd hn
theorem gl_vp {T : Nat} {x : Operand} {row : List PV} {p : PV} [F : OneI P T] (ho : o.op = .load T x) (hx : ev s x = some (.pv (.vp row))) (hp : row[0]? = some p) (hd : o.dst = d) (hn : dOk s d = true) : OpOk ro P c o s (s.put d (some (.pv p))) := op_load_vp ho hx hp F.h hd hn
theorem gs_one {T : Nat} {x y : Operand} {id k : Nat} {t : TypeId} {cells : List AV} {v : AV} [F : OneI P T] (ho : o.op = .store T x y) (hx : ev s x = some (.lp id k)) (hy : ev s y = some v) (hc : v.cellish = true) (hb : look id s.hp = some (.box t cells)) (hn1 : v.cells.length = 1) (hfit : Nat.ble (k + v.cells.length) cells.length = true) (hd : o.dst = d) (hk : ktB s d = true) :
  OpOk ro P c o s ((s.setBlk id (some (.box t (splice cells k v.cells)))).put d none) := op_store_lp (n := 1) ho hx hy hc hb (or_one F.h) (by rw [F.h]; exact hn1) hfit hd hk
theorem gs_agg {T n : Nat} {x y : Operand} {id k : Nat} {t : TypeId} {cells : List AV} {v : AV} [F : AggI P T n] (ho : o.op = .store T x y) (hx : ev s x = some (.lp id k)) (hy : ev s y = some v) (hc : v.cellish = true) (hb : look id s.hp = some (.box t cells)) (hn1 : v.cells.length = n) (hfit : Nat.ble (k + v.cells.length) cells.length = true) (hd : o.dst = d) (hk : ktB s d = true) :
  OpOk ro P c o s ((s.setBlk id (some (.box t (splice cells k v.cells)))).put d none) := op_store_lp (n := n) ho hx hy hc hb (or_agg F.h) (by rw [F.h0]; exact hn1) hfit hd hk
theorem glen {α : Type} {f : α → List PV} {l : List α} {T e sz sz' : Nat} {x : Operand} [F : SlcI P T e sz'] (ho : o.op = .call { callee := .builtin .len, args := #[x], argTypes := #[T] }) (hx : ev s x = some (.pv (.vs sz (l.map f)))) (hd : o.dst = d) (hn : dOk s d = true) : OpOk ro P c o s (s.put d (some (.pv (.int .i64 l.length)))) := op_len_vs (n := l.length) ho hx (List.length_map ..) F.h hd hn
theorem gp (h : RegW ro P c all rest Q s') (ho : OpOk ro P c o s s' := by first
 | exact gf_lp rfl rfl rfl rfl
 | exact gl_lp rfl rfl rfl rfl rfl rfl
 | exact op_int rfl rfl rfl rfl rfl rfl
 | exact gs_one rfl rfl rfl rfl rfl rfl rfl rfl rfl
 | exact gs_agg rfl rfl rfl rfl rfl rfl rfl rfl rfl
 | exact gl_vp rfl rfl rfl rfl rfl
 | exact glen rfl rfl rfl rfl
 | exact gf_vp rfl rfl rfl rfl
 | exact op_not rfl rfl rfl rfl) (hg : o.guard = none := by exact rfl) : RegW ro P c all (o :: rest) Q s := reg_cons (guard_no hg) ho h
theorem gn {j d : Nat} {want t : Bool} (ht : t = want) (h : RegW ro P c all rest Q s') (ho : OpOk ro P c o s s' := by first
 | exact gf_lp rfl rfl rfl rfl
 | exact gl_lp rfl rfl rfl rfl rfl rfl
 | exact op_int rfl rfl rfl rfl rfl rfl
 | exact gs_one rfl rfl rfl rfl rfl rfl rfl rfl rfl
 | exact gs_agg rfl rfl rfl rfl rfl rfl rfl rfl rfl
 | exact gl_vp rfl rfl rfl rfl rfl
 | exact glen rfl rfl rfl rfl
 | exact gf_vp rfl rfl rfl rfl
 | exact op_not rfl rfl rfl rfl
 | exact op_move rfl rfl rfl rfl
 | exact op_assign rfl rfl rfl rfl) (hg : o.guard = some (j, want) := by exact rfl) (hj : ((all[j]?).bind (·.dst)) = some d := by exact rfl) (hn : Nat.blt d s.n = true := by exact rfl) (hl : look d s.fr = some (.pv (.bool t)) := by exact rfl) : RegW ro P c all (o :: rest) Q s :=
 reg_cons (guard_on hg hj hn hl ht) ho h
end
section
variable {rest : List Oper} {o : Oper} {s' : St} {d : Option Nat}
def czc : Value → PV → Option PV
 | .slice none 0 0, .vs n [] => some (.vs n [])
 | v, _ => cv v
def czl : List Value → List PV → Option (List PV)
 | [], [] => some []
 | v :: vs, p :: ps => match czc v p, czl vs ps with
  | some q, some qs => some (q :: qs)
  | _, _ => none
 | _, _ => none
theorem cz_of {v : Value} {p q : PV} (h : czc v p = some q) (e : q = p) : cz v p := by
 subst e
 unfold czc at h
 split at h
 ·trivial
 ·unfold cz; split
  ·trivial
  ·exact h
theorem czs_of : ∀ {vs : List Value} {ps : List PV}, czl vs ps = some ps → czs vs ps
 | [], [], _ => trivial
 | [], _ :: _, h => by simp [czl] at h
 | _ :: _, [], h => by simp [czl] at h
 | v :: vs, p :: ps, h => by
  simp only [czl] at h
  split at h
  ·rename_i q qs h1 h2
   cases h
   exact ⟨cz_of h1 rfl, czs_of h2⟩
  ·cases h
theorem al (kk : Nat) {T : Nat} {z : Value} (ps : List PV) (hz : zeroIs P T z) (hk : freshB s kk = true := by exact rfl) (ho : o.op = .alloc T := by exact rfl) (hp : czl z.cells.toList ps = some ps := by kernel_rfl) (hd : o.dst = d := by exact rfl) (hn : dOk s d = true := by exact rfl) :
  OpOk ro P c o s ((s.addAt kk none (.box T (ps.map .pv))).put d (some (.lp kk 0))) := op_alloc kk hk ho hz (czs_of hp) hd hn
theorem bd {T : Nat} {parts : List (Nat × Operand)} {place : List (Nat × Nat)} {z : Value} (zs r : List PV) {xs : List (Nat × AV)} (hz : zeroIs P T z) (hpl : placesB P T place = true) (ho : o.op = .build T parts.toArray := by exact rfl) (hzs : czl z.cells.toList zs = some zs := by kernel_rfl)
  (hx : evs s parts = some xs := by exact rfl) (hr : fillPV place zs xs = some r := by exact rfl) (hd : o.dst = d := by exact rfl) (hn : dOk s d = true := by exact rfl) : OpOk ro P c o s (s.put d (some (.pv (.agg r)))) := op_build ho hz (czs_of hzs) hpl hx hr hd hn
theorem la {T n : Nat} {x : Operand} {id k : Nat} {t : TypeId} {cells : List AV} (ps : List PV) (ht : aggB P T n = true) (ho : o.op = .load T x := by exact rfl) (hx : ev s x = some (.lp id k) := by exact rfl) (hb : look id s.hp = some (.box t cells) := by exact rfl)
  (hc : pvs ((cells.drop k).take n) = some ps := by exact rfl) (hl : ps.length = n := by exact rfl) (h1c : (ps.all PV.one) = true := by exact rfl) (hd : o.dst = d := by exact rfl) (hn : dOk s d = true := by exact rfl) : OpOk ro P c o s (s.put d (some (.pv (.agg ps)))) := op_load_lp_agg ho hx hb hc hl h1c ht hd hn
theorem lw {T n : Nat} {x : Operand} {row : List PV} (ps : List PV) (ht : aggB P T n = true) (ho : o.op = .load T x := by exact rfl) (hx : ev s x = some (.pv (.vp row)) := by exact rfl) (hp : row.take n = ps := by exact rfl) (hl : ps.length = n := by exact rfl) (hd : o.dst = d := by exact rfl) (hn : dOk s d = true := by exact rfl) :
  OpOk ro P c o s (s.put d (some (.pv (.agg ps)))) := op_load_vp_agg ho hx hp hl ht hd hn
theorem ix {T e sz : Nat} {x y : Operand} {k : IntKind} {n : Int} {rows : List (List PV)} {row : List PV} (hr : idx rows n = some row) (ht : sliceB P T e sz = true) (ho : o.op = .indexAddr T x y := by exact rfl) (hx : ev s x = some (.pv (.vs sz rows)) := by exact rfl) (hy : ev s y = some (.pv (.int k n)) := by exact rfl)
  (hd : o.dst = d := by exact rfl) (hn : dOk s d = true := by exact rfl) : OpOk ro P c o s (s.put d (some (.pv (.vp row)))) := op_index_vs ho hx hy hr ht hd hn
theorem bo (kk : Nat) {T : Nat} {x : Operand} {v : AV} (hk : freshB s kk = true := by exact rfl) (ho : o.op = .box T x := by exact rfl) (hx : ev s x = some v := by exact rfl) (hc : v.cellish = true := by exact rfl) (hd : o.dst = d := by exact rfl) (hn : dOk s d = true := by exact rfl) :
  OpOk ro P c o s ((s.addAt kk none (.box T v.cells)).put d (some (.lp kk 0))) := op_box kk hk ho hx hc hd hn
theorem cl (kk : Nat) {fo : Operand} {xs : List Operand} {ts : Array TypeId} {f : Nat} (args : List PV) (rs : List Res) {ob : Option Blk} (h : Fn G P f (args ++ []) rs) (hB : callB P f = true := by kernel_rfl) (hk : freshB s kk = true := by exact rfl) (ho : o.op = .call { callee := .value fo, args := xs.toArray, argTypes := ts } := by exact rfl) (hf : ev s fo = some (.pv (.fn f [])) := by exact rfl) (hx : evl s xs = some (args.map .pv) := by exact rfl)
  (hob : oneOwn rs = some ob := by exact rfl) (hd : o.dst = d := by exact rfl) (hn : dOk s d = true := by exact rfl) : OpOk ro P c o s ((s.addRes kk ob).put d (some (resTop kk rs))) := op_call kk hk (caps := []) ho hf hx hB h hob hd hn
theorem cnd {β : Type} {b : Bool} {X Y : Option β} {r : β} {x y : Code} {t : Operand} (hF : (if b = true then X else Y) = some r) (h1 : b = true → X = some r → AW ro P c x Q s) (h2 : b = false → Y = some r → AW ro P c y Q s) (ht : ev s t = some (.pv (.bool b)) := by exact rfl) : AW ro P c (.cond t x y) Q s := by
 rcases ite_some hF with ⟨h3, h4⟩ | ⟨h3, h4⟩
 ·exact aw_cond_t ht h3 (h1 h3 h4)
 ·exact aw_cond_f ht h3 (h2 h3 h4)
theorem bs {α β : Type} {x : Option α} {k : α → Option β} {r : β} (h : x.bind k = some r) : ∃ y, x = some y ∧ k y = some r := bind_some h
theorem ie {β : Type} {b : Bool} {x y : Option β} {r : β} (h : (if b = true then x else y) = some r) : (b = true ∧ x = some r) ∨ (b = false ∧ y = some r) := ite_some h
theorem pcz {s1 : St} (L : List Nat) (hF : pickF s.fr s1.fr = renF (fun i => L.getD i s.next) s1.fr := by kernel_rfl) (hH : pickH s.hp (fun i => L.getD i s.next) s1.hp = renH (fun i => L.getD i s.next) s1.hp := by kernel_rfl)
  (hn : s1.n = s.n := by exact rfl) (hnd : L.Nodup := by decide) (hnext : s1.next = L.length := by exact rfl) (hfree : s1.free = [] := by exact rfl)
  (hids : (s1.hp.all fun x => Nat.blt x.1 L.length) = true := by exact rfl) (hys : s1.ys = s.ys := by exact rfl) (hkt : s1.kt = s.kt := by exact rfl) : Post c (Cut c Q (fun s' => s' = s1)) .normal s := post_cut s1 rfl (imp_sub L hn hnd hnext hfree (subF_of hF) (subH_of hH) hids hys hkt)
theorem rcz {all : List Oper} {s1 : St} (L : List Nat) (hF : pickF s.fr s1.fr = renF (fun i => L.getD i s.next) s1.fr := by kernel_rfl) (hH : pickH s.hp (fun i => L.getD i s.next) s1.hp = renH (fun i => L.getD i s.next) s1.hp := by kernel_rfl)
  (hn : s1.n = s.n := by exact rfl) (hnd : L.Nodup := by decide) (hnext : s1.next = L.length := by exact rfl) (hfree : s1.free = [] := by exact rfl)
  (hids : (s1.hp.all fun x => Nat.blt x.1 L.length) = true := by exact rfl) (hys : s1.ys = s.ys := by exact rfl) (hkt : s1.kt = s.kt := by exact rfl) : RegW ro P c all [] (Cut c Q (fun s' => s' = s1)) s := reg_nil (post_cut s1 rfl (imp_sub L hn hnd hnext hfree (subF_of hF) (subH_of hH) hids hys hkt))
theorem ctx {k : Code} (s1 : St) (h : AW ro P c k (Cut c Q (fun s' => s' = s1)) s) (h2 : Post c Q .normal s1) : AW ro P c k Q s := aw_cut _ h (fun _ e => e ▸ h2)
theorem rnr {all : List Oper} {x : Code} {m : Nat} (h : RndW ro P c x Q m s) : RegW ro P c all [] (Exit.then (Code.roundsIn (FF ro) 0 P x Q m) Q) s := reg_nil (post_round h)
abbrev sX (n : Nat) (fr : List (Nat × Option AV)) (hp : List (Nat × Option Blk)) (k : Nat) : St := ⟨n, fr, hp, k, [], [], 0, []⟩
abbrev pf (t : Nat) (p : PV) : Nat × Option AV := (t, some (.pv p))
abbrev bf (t T : Nat) (l : List PV) : Nat × Option Blk := (t, some (.box T (bxv l)))
end
section
variable {id n next ys : Nat} {kt : List Nat} {df : List Deferred} {l rest : List Oper} {o : Oper} {m0 m : Mid} {es : List Eff}
theorem dfl {t d T f off i k : Nat} [F : FldI P T f off] (h : DrW ro P c Q s id l n df next ys kt m0 ({ need := [(t, .lp i k)], dst := some d, val := some (.lp i (k + off)) } :: es) rest (({ need := [(t, .lp i k)], dst := some d, val := some (.lp i (k + off)) } : Eff).apply m))
  (hg : o.guard = none := by exact rfl) (ho : o.op = .fieldAddr T (.tmp t) f := by exact rfl) (hd : o.dst = some d := by exact rfl) (hl : look t m.fr = some (.lp i k) := by exact rfl) (hk : dOk (m.st n df next ys kt) (some d) = true := by exact rfl) : DrW ro P c Q s id l n df next ys kt m0 es (o :: rest) m :=
 dr_cons { need := [(t, .lp i k)], dst := some d, val := some (.lp i (k + off)) } (fun _ h => step_on (guard_no hg) (op_field_lp ho h.1.1 F.h hd hk) rfl) ⟨⟨hl, trivial⟩, trivial, trivial⟩ h
theorem dfg {t d T f off i k j dg : Nat} {want b : Bool} [F : FldI P T f off] (hb : b = want) (h : DrW ro P c Q s id l n df next ys kt m0 ({ need := [(dg, .pv (.bool b)), (t, .lp i k)], dst := some d, val := some (.lp i (k + off)) } :: es) rest (({ need := [(dg, .pv (.bool b)), (t, .lp i k)], dst := some d, val := some (.lp i (k + off)) } : Eff).apply m))
  (hg : o.guard = some (j, want) := by exact rfl) (hj : ((l[j]?).bind (·.dst)) = some dg := by exact rfl) (hn : Nat.blt dg n = true := by exact rfl) (hgl : look dg m.fr = some (.pv (.bool b)) := by exact rfl) (ho : o.op = .fieldAddr T (.tmp t) f := by exact rfl) (hd : o.dst = some d := by exact rfl) (hl : look t m.fr = some (.lp i k) := by exact rfl) (hk : dOk (m.st n df next ys kt) (some d) = true := by exact rfl) : DrW ro P c Q s id l n df next ys kt m0 es (o :: rest) m :=
 dr_cons { need := [(dg, .pv (.bool b)), (t, .lp i k)], dst := some d, val := some (.lp i (k + off)) } (fun _ h => step_on (guard_on hg hj hn h.1.1 hb) (op_field_lp ho h.1.2.1 F.h hd hk) rfl) ⟨⟨hgl, hl, trivial⟩, trivial, trivial⟩ h
theorem dld {t d T i k tt : Nat} {cells : List AV} {v : AV} [F : OneI P T] (h : DrW ro P c Q s id l n df next ys kt m0 ({ need := [(t, .lp i k)], hneed := [(i, .box tt cells)], dst := some d, val := some v } :: es) rest (({ need := [(t, .lp i k)], hneed := [(i, .box tt cells)], dst := some d, val := some v } : Eff).apply m))
  (hg : o.guard = none := by exact rfl) (ho : o.op = .load T (.tmp t) := by exact rfl) (hd : o.dst = some d := by exact rfl) (hl : look t m.fr = some (.lp i k) := by exact rfl) (hh : look i m.hp = some (.box tt cells) := by exact rfl) (hc : cells[k]? = some v := by exact rfl) (hk : dOk (m.st n df next ys kt) (some d) = true := by exact rfl) : DrW ro P c Q s id l n df next ys kt m0 es (o :: rest) m :=
 dr_cons { need := [(t, .lp i k)], hneed := [(i, .box tt cells)], dst := some d, val := some v } (fun _ h => step_on (guard_no hg) (op_load_lp ho h.1.1 h.2.1.1 hc F.h hd hk) rfl) ⟨⟨hl, trivial⟩, ⟨hh, trivial⟩, trivial⟩ h
theorem dlg {t d T i k tt j dg : Nat} {want b : Bool} {cells : List AV} {v : AV} [F : OneI P T] (hb : b = want) (h : DrW ro P c Q s id l n df next ys kt m0 ({ need := [(dg, .pv (.bool b)), (t, .lp i k)], hneed := [(i, .box tt cells)], dst := some d, val := some v } :: es) rest (({ need := [(dg, .pv (.bool b)), (t, .lp i k)], hneed := [(i, .box tt cells)], dst := some d, val := some v } : Eff).apply m))
  (hg : o.guard = some (j, want) := by exact rfl) (hj : ((l[j]?).bind (·.dst)) = some dg := by exact rfl) (hn : Nat.blt dg n = true := by exact rfl) (hgl : look dg m.fr = some (.pv (.bool b)) := by exact rfl) (ho : o.op = .load T (.tmp t) := by exact rfl) (hd : o.dst = some d := by exact rfl) (hl : look t m.fr = some (.lp i k) := by exact rfl) (hh : look i m.hp = some (.box tt cells) := by exact rfl) (hc : cells[k]? = some v := by exact rfl) (hk : dOk (m.st n df next ys kt) (some d) = true := by exact rfl) : DrW ro P c Q s id l n df next ys kt m0 es (o :: rest) m :=
 dr_cons { need := [(dg, .pv (.bool b)), (t, .lp i k)], hneed := [(i, .box tt cells)], dst := some d, val := some v } (fun _ h => step_on (guard_on hg hj hn h.1.1 hb) (op_load_lp ho h.1.2.1 h.2.1.1 hc F.h hd hk) rfl) ⟨⟨hgl, hl, trivial⟩, ⟨hh, trivial⟩, trivial⟩ h
theorem dia {t d T T' : Nat} {op : BinOp} {k : IntKind} {a b : Int} {r : PV} {y : Value} (h : DrW ro P c Q s id l n df next ys kt m0 ({ need := [(t, .pv (.int k a))], dst := some d, val := some (.pv r) } :: es) rest (({ need := [(t, .pv (.int k a))], dst := some d, val := some (.pv r) } : Eff).apply m))
  (hg : o.guard = none := by exact rfl) (ho : o.op = .binOp op T (.tmp t) (.const y) T' := by exact rfl) (hd : o.dst = some d := by exact rfl) (hl : look t m.fr = some (.pv (.int k a)) := by exact rfl) (hy : cv y = some (.int k b) := by exact rfl) (hr : intOp op k a b = some r := by exact rfl) (hk : dOk (m.st n df next ys kt) (some d) = true := by exact rfl) : DrW ro P c Q s id l n df next ys kt m0 es (o :: rest) m :=
 dr_cons { need := [(t, .pv (.int k a))], dst := some d, val := some (.pv r) } (fun _ h => step_on (guard_no hg) (op_int ho h.1.1 (show ev _ (.const y) = _ by simp only [ev, hy, Option.map_some]) hr hd hk) rfl) ⟨⟨hl, trivial⟩, trivial, trivial⟩ h
theorem dig {t d T T' j dg : Nat} {want z : Bool} {op : BinOp} {k : IntKind} {a b : Int} {r : PV} {y : Value} (hb : z = want) (h : DrW ro P c Q s id l n df next ys kt m0 ({ need := [(dg, .pv (.bool z)), (t, .pv (.int k a))], dst := some d, val := some (.pv r) } :: es) rest (({ need := [(dg, .pv (.bool z)), (t, .pv (.int k a))], dst := some d, val := some (.pv r) } : Eff).apply m))
  (hg : o.guard = some (j, want) := by exact rfl) (hj : ((l[j]?).bind (·.dst)) = some dg := by exact rfl) (hn : Nat.blt dg n = true := by exact rfl) (hgl : look dg m.fr = some (.pv (.bool z)) := by exact rfl) (ho : o.op = .binOp op T (.tmp t) (.const y) T' := by exact rfl) (hd : o.dst = some d := by exact rfl) (hl : look t m.fr = some (.pv (.int k a)) := by exact rfl) (hy : cv y = some (.int k b) := by exact rfl) (hr : intOp op k a b = some r := by exact rfl) (hk : dOk (m.st n df next ys kt) (some d) = true := by exact rfl) : DrW ro P c Q s id l n df next ys kt m0 es (o :: rest) m :=
 dr_cons { need := [(dg, .pv (.bool z)), (t, .pv (.int k a))], dst := some d, val := some (.pv r) } (fun _ h => step_on (guard_on hg hj hn h.1.1 hb) (op_int ho h.1.2.1 (show ev _ (.const y) = _ by simp only [ev, hy, Option.map_some]) hr hd hk) rfl) ⟨⟨hgl, hl, trivial⟩, trivial, trivial⟩ h
theorem dk (d : Nat) (nd : List (Nat × AV)) (v : AV) (hf : ∀ m : Mid, Has ⟨nd, [], [], some d, some v, []⟩ m → ∃ s1, OpOk ro P c o (m.st n df next ys kt) s1 ∧ s1 = (Eff.apply ⟨nd, [], [], some d, some v, []⟩ m).st n df next ys kt)
  (h : DrW ro P c Q s id l n df next ys kt m0 (⟨nd, [], [], some d, some v, []⟩ :: es) rest (Eff.apply ⟨nd, [], [], some d, some v, []⟩ m)) (hg : o.guard = none := by exact rfl)
  (ht : Has ⟨nd, [], [], some d, some v, []⟩ m := by first | exact ⟨⟨rfl, trivial⟩, trivial, trivial⟩ | exact ⟨⟨rfl, rfl, trivial⟩, trivial, trivial⟩ | exact ⟨⟨rfl, rfl, rfl, trivial⟩, trivial, trivial⟩ | exact ⟨⟨rfl, rfl, rfl, rfl, trivial⟩, trivial, trivial⟩ | exact ⟨trivial, trivial, trivial⟩) : DrW ro P c Q s id l n df next ys kt m0 es (o :: rest) m :=
 dr_cons _ (fun m h => by obtain ⟨s1, h1, h2⟩ := hf m h; exact step_on (guard_no hg) h1 h2) ht h
theorem dkg {want b : Bool} (hb : b = want) (d : Nat) {dg : Nat} (nd : List (Nat × AV)) (v : AV) (hf : ∀ m : Mid, Has ⟨(dg, .pv (.bool b)) :: nd, [], [], some d, some v, []⟩ m → ∃ s1, OpOk ro P c o (m.st n df next ys kt) s1 ∧ s1 = (Eff.apply ⟨(dg, .pv (.bool b)) :: nd, [], [], some d, some v, []⟩ m).st n df next ys kt)
  (h : DrW ro P c Q s id l n df next ys kt m0 (⟨(dg, .pv (.bool b)) :: nd, [], [], some d, some v, []⟩ :: es) rest (Eff.apply ⟨(dg, .pv (.bool b)) :: nd, [], [], some d, some v, []⟩ m)) {j : Nat} (hg : o.guard = some (j, want) := by exact rfl) (hj : ((l[j]?).bind (·.dst)) = some dg := by exact rfl) (hn : Nat.blt dg n = true := by exact rfl)
  (ht : Has ⟨(dg, .pv (.bool b)) :: nd, [], [], some d, some v, []⟩ m := by first | exact ⟨⟨rfl, trivial⟩, trivial, trivial⟩ | exact ⟨⟨rfl, rfl, trivial⟩, trivial, trivial⟩ | exact ⟨⟨rfl, rfl, rfl, trivial⟩, trivial, trivial⟩ | exact ⟨⟨rfl, rfl, rfl, rfl, trivial⟩, trivial, trivial⟩) : DrW ro P c Q s id l n df next ys kt m0 es (o :: rest) m :=
 dr_cons _ (fun m h => by obtain ⟨s1, h1, h2⟩ := hf m h; exact step_on (guard_on hg hj hn h.1.1 hb) h1 h2) ht h
theorem dgo {g g' : Prop} (h' : g') (h : g' → g := by first
 | exact fun h => drm h
 | exact fun h => dfl h
 | exact fun h => dld h
 | exact fun h => dia h
 | exact fun h => dru h) : g := h h'
theorem dgn {b want : Bool} {g g' : Prop} (hb : b = want) (h' : g') (h : b = want → g' → g := by first
 | exact fun hb h => dfg hb h
 | exact fun hb h => dlg hb h
 | exact fun hb h => dig hb h) : g := h hb h'
end
theorem go {g g' : Prop} (h' : g') (h : g' → g := by first
 | ((with_reducible refine (?_ : _ → RegW _ _ _ _ _ _ _)); first
  | exact fun h => rmv h
  | exact fun h => gp h
  | exact fun h => ras h
  | exact fun h => reg_nil (post_next h)
  | exact fun h => rgu h)
 | ((with_reducible refine (?_ : _ → AW _ _ _ _ _ _)); first
  | with_reducible exact fun h => aw_seq (aw_region h)
  | with_reducible exact fun h => aw_seq h
  | with_reducible exact fun h => aw_region h
  | with_reducible exact fun h => aw_skip h
  | with_reducible exact fun h => aw_ret h
  | with_reducible exact fun h => aw_block h)
 | ((with_reducible refine (?_ : _ → Post _ _ _ _)); first
  | with_reducible exact fun h => post_next h
  | with_reducible exact fun h => post_block_normal h
  | with_reducible exact fun h => post_then_ret h
  | with_reducible exact fun h => post_block_ret h)) : g := h h'
end
end Go.Abs

