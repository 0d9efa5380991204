/- The abstract layer that the proof stands on: no condition. -/
import Derived.Test.YtkfgkkbfipgklaaAbsE
namespace Go.Abs
open Go.RowKit

/-- The zero value of type `T`. -/
def zeroIs (P : Program) (T : Nat) (z : Value) : Prop := (P.info? T).bind (·.zero) = some z
theorem zeroIs_spec {P : Program} {T : Nat} {z : Value} (h : zeroIs P T z) (w : World) : (zeroValue T).run P w = .ok z w ∧ ∃ i, P.info? T = some i ∧ i.zero = some z := by
  unfold zeroIs at h
  cases hi : P.info? T with
  | none => rw [hi] at h; cases h
  | some i =>
    rw [hi] at h
    have hz : i.zero = some z := h
    exact ⟨by simp [zeroValue, typeInfo, hi, hz], i, rfl, hz⟩

/-- A constant's cells. -/
def cvs : List Value → Option (List PV)
  | [] => some []
  | v :: l => match cv v, cvs l with
    | some p, some ps => some (p :: ps)
    | _, _ => none
/-- A constant as it stands: nil slices too. -/
def cvz : Value → Option PV
  | .slice none 0 0 => some (.vs 0 [])
  | v => cv v
def cvzs : List Value → Option (List PV)
  | [] => some []
  | v :: l => match cvz v, cvzs l with
    | some p, some ps => some (p :: ps)
    | _, _ => none
/-- `p` may stand for the constant `v`: a nil slice is empty, of whatever size of elements. -/
def cz : Value → PV → Prop
  | .slice none 0 0, .vs _ [] => True
  | v, p => cv v = some p
theorem cz_ok {w : World} {O : Nat → Prop} {v : Value} {p : PV} (h : cz v p) : Rd w O p v := by
  unfold cz at h
  split at h
  · exact .vs0 _
  · exact cv_ok h
theorem cz_one {v : Value} {p : PV} (h : cz v p) : p.one = true ∧ v.oneCell' = true := by
  have h1 := cz_ok (w := default) (O := fun _ => False) h
  have : p.one = true := by
    unfold cz at h
    split at h
    · rfl
    · unfold cv at h; split at h <;> cases h <;> rfl
  exact ⟨this, h1.one_ this⟩
/-- The constants `vs` may be taken for `ps`, one by one. -/
def czs : List Value → List PV → Prop
  | [], [] => True
  | v :: vs, p :: ps => cz v p ∧ czs vs ps
  | _, _ => False
theorem czs_spec : ∀ {vs : List Value} {ps : List PV}, czs vs ps → vs.length = ps.length ∧ ∀ (j : Nat) (p : PV) (u : Value), ps[j]? = some p → vs[j]? = some u → cz u p
  | [], [], _ => ⟨rfl, fun j p u h => by simp at h⟩
  | v :: vs, p :: ps, h => by
    obtain ⟨h1, h2⟩ := h
    obtain ⟨h3, h4⟩ := czs_spec h2
    refine ⟨by simp [h3], fun j q u hq hu => ?_⟩
    cases j with
    | zero => simp at hq hu; subst hq; subst hu; exact h1
    | succ j => simp at hq hu; exact h4 j q u hq hu
  | [], _ :: _, h | _ :: _, [], h => by simp [czs] at h

section
variable {ro : Option Nat} {P : Program} {c : Cx} {s s' : St} {o : Oper} {d : Option Nat}

/-- The assignment of a nil slice: taken as an empty slice of what it may be. -/
theorem op_assign_nil {x : Operand} (sz : Nat) (ho : o.op = .assign x) (hx : x = .const (.slice none 0 0)) (hd : o.dst = d) (hn : dOk s d = true) : OpOk ro P c o s (s.put d (some (.pv (.vs sz [])))) :=
  opOk_value hd hn (by rw [ho]; intro k h; cases h) fun a w O θ hs => ⟨.slice none 0 0, by subst hx; simp [execOp, ho, Act.eval], .pv _ _ (.vs0 sz)⟩

/-- The same as a row of the call's own, to be appended to. -/
theorem op_assign_own (kk : Nat) (hk : freshB s kk = true) {x : Operand} (e sz : Nat) (ho : o.op = .assign x) (hx : x = .const (.slice none 0 0)) (hd : o.dst = d) (hn : dOk s d = true) : OpOk ro P c o s ((s.addAt kk none (.row e sz [])).put d (some (.ls kk))) :=
  opOk_mem (s1 := s.addAt kk none (.row e sz [])) hd hn (by rw [ho]; intro k h; cases h) fun a w O θ hs => by
    obtain ⟨O', θ', h1, h2, h3, h4⟩ := hs.addAt (w' := w) (row := none) (v := .slice none 0 0) (b := .row e sz []) kk hk none (by simp) (fun _ => rfl) ⟨rfl, rfl, rfl, Nat.le_refl _, fun _ _ _ => rfl⟩ (by simp [blkOf]) rfl
      (fun O' θ' _ _ => ⟨[], ownsW_nil w e sz, ⟨by simp, by simp, by simp, fun i j row x u h => by simp at h⟩⟩)
    exact ⟨.slice none 0 0, w, O', θ', by subst hx; simp [execOp, ho, Act.eval], h4, .ls _ _ h3⟩

theorem alloc_grown (w : World) (ob : Obj) : w.grownBy (w.alloc ob) none := World.grownBy_alloc w ob none

/-- A new variable of type `T`, zeroed. -/
theorem op_alloc (kk : Nat) (hk : freshB s kk = true) {T : Nat} {z : Value} {ps : List PV} (ho : o.op = .alloc T) (hz : zeroIs P T z) (hp : czs z.cells.toList ps) (hd : o.dst = d) (hn : dOk s d = true) :
    OpOk ro P c o s ((s.addAt kk none (.box T (ps.map .pv))).put d (some (.lp kk 0))) :=
  opOk_mem (s1 := s.addAt kk none (.box T (ps.map .pv))) hd hn (by rw [ho]; intro k h; cases h) fun a w O θ hs => by
    obtain ⟨h1, h2⟩ := czs_spec hp
    obtain ⟨O', θ', h3, h4, h5, h6⟩ := hs.addAt (w' := w.alloc (.cells z.cells T)) (row := none) (v := .pointer (some ⟨w.heap.size, 0, none⟩)) (b := .box T (ps.map .pv)) kk hk none (by simp) (fun _ => rfl) (alloc_grown w _)
      (fun g hg => by simp [blkOf] at hg; subst hg; simp) rfl (fun O' θ' _ _ => ⟨w.heap.size, z.cells, rfl, heap_alloc_new w _, by simpa using h1, fun j x u hx hu => by
        simp only [List.getElem?_map, Option.map_eq_some_iff] at hx
        obtain ⟨p, hp, rfl⟩ := hx
        have := h2 j p u hp (by simpa using hu)
        exact ⟨.pv _ _ (cz_ok this), (cz_one this).2⟩⟩)
    refine ⟨_, _, O', θ', ?_, h6, .lp _ _ _ h5⟩
    simp [execOp, ho, Instr.alloc, (zeroIs_spec hz _).1, newVar, newRow, newObj, Sem.run]

/-- A new variable that holds a value. -/
theorem op_box (kk : Nat) (hk : freshB s kk = true) {T : Nat} {x : Operand} {v : AV} (ho : o.op = .box T x) (hx : ev s x = some v) (hc : v.cellish = true) (hd : o.dst = d) (hn : dOk s d = true) :
    OpOk ro P c o s ((s.addAt kk none (.box T v.cells)).put d (some (.lp kk 0))) :=
  opOk_mem (s1 := s.addAt kk none (.box T v.cells)) hd hn (by rw [ho]; intro k h; cases h) fun a w O θ hs => by
    have hv := ev_ok hs hx
    generalize ha : a.eval x = z at hv
    obtain ⟨c1, c2, c3⟩ := AV.cells_ok hv hc hs.one
    have hg := alloc_grown w (.cells z.cells T)
    obtain ⟨O', θ', h3, h4, h5, h6⟩ := hs.addAt (w' := w.alloc (.cells z.cells T)) (row := none) (v := .pointer (some ⟨w.heap.size, 0, none⟩)) (b := .box T v.cells) kk hk none (by simp) (fun _ => rfl) hg
      (fun g hg => by simp [blkOf] at hg; subst hg; simp) rfl (fun O' θ' hO' hθ' => ⟨w.heap.size, z.cells, rfl, heap_alloc_new w _, c1, fun j y u hy hu =>
        ⟨(c3 j y u hy hu).mono hg.size (fun b hb hn => ⟨fun hh => by
          rcases (hO' b).1 hh with h | h
          · exact hn h
          · simp [blkOf] at h; omega, hg.block b hb (by simp)⟩) hθ', c2 u (Array.mem_toList_iff.2 (Array.mem_of_getElem? hu))⟩⟩)
    refine ⟨_, _, O', θ', ?_, h6, .lp _ _ _ h5⟩
    simp [execOp, ho, Instr.box, ha, newVar, newRow, newObj, Sem.run]

theorem op_not {T : TypeId} {x : Operand} {b : Bool} (ho : o.op = .unOp .not T x) (hx : ev s x = some (.pv (.bool b))) (hd : o.dst = d) (hn : dOk s d = true) : OpOk ro P c o s (s.put d (some (.pv (.bool (!b))))) :=
  opOk_value hd hn (by rw [ho]; intro k h; cases h) fun a w O θ hs => ⟨_, by simp [execOp, ho, Op.unary, ev_bool hs hx], .pv _ _ (.bool _)⟩
theorem op_neg {T : TypeId} {x : Operand} {k : IntKind} {n : Int} (ho : o.op = .unOp .neg T x) (hx : ev s x = some (.pv (.int k n))) (hd : o.dst = d) (hn : dOk s d = true) : OpOk ro P c o s (s.put d (some (.pv (.int k (k.wrap (0 - n)))))) :=
  opOk_value hd hn (by rw [ho]; intro k h; cases h) fun a w O θ hs => ⟨_, by simp only [execOp, ho, Op.unary, ev_int hs hx, Op.intArith]; simp, .pv _ _ (.int _ _)⟩

theorem op_extract {x : Operand} {n : Nat} {vs : List AV} {v : AV} (ho : o.op = .extract x n) (hx : ev s x = some (.tup vs)) (hv : vs[n]? = some v) (hd : o.dst = d) (hn : dOk s d = true) : OpOk ro P c o s (s.put d (some v)) :=
  opOk_value hd hn (by rw [ho]; intro k h; cases h) fun a w O θ hs => by
    have h := ev_ok hs hx
    generalize ha : a.eval x = u at h
    cases h with
    | tup _ us h1 h2 =>
      have hlt : n < us.size := by rw [h1]; exact (List.getElem?_eq_some_iff.1 hv).1
      have hu : us[n]? = some us[n] := by simp [hlt]
      exact ⟨us[n], by simp [execOp, ho, ha, Instr.extract, hu], h2 n v _ hv hu⟩

theorem op_nilCheck {x : Operand} {v : AV} (ho : o.op = .nilCheck x) (hx : ev s x = some v) (hp : (match v with | .pv (.vp _) => true | .lp _ _ => true | .le _ _ _ _ => true | .pv (.fn _ _) => true | .fn _ _ => true | _ => false) = true) (hd : o.dst = d) (hn : dOk s d = true) :
    OpOk ro P c o s (s.put d (some v)) :=
  opOk_value hd hn (by rw [ho]; intro k h; cases h) fun a w O θ hs => by
    have h := ev_ok hs hx
    refine ⟨a.eval x, ?_, h⟩
    generalize ha : a.eval x = u at h
    cases h with
    | pv p _ h => cases h <;> first | (simp at hp; done) | (simp [execOp, ho, ha]; done)
    | ls => simp at hp
    | le => simp [execOp, ho, ha]
    | lp => simp [execOp, ho, ha]
    | cs => simp at hp
    | ra => simp at hp
    | fn => simp [execOp, ho, ha]
    | tup => simp at hp

/-! Lengths. -/
def lenB (P : Program) (T : Nat) : Bool := match P.underlying T with | some .string => true | some (.slice _) => true | _ => false
theorem op_len_str {T : TypeId} {x : Operand} {l : List UInt8} (ho : o.op = .call { callee := .builtin .len, args := #[x], argTypes := #[T] }) (hx : ev s x = some (.pv (.str l))) (ht : P.underlying T = some .string) (hd : o.dst = d) (hn : dOk s d = true) :
    OpOk ro P c o s (s.put d (some (.pv (.int .i64 l.length)))) :=
  opOk_value hd hn (by rw [ho]; intro k h; cases h) fun a w O θ hs => ⟨.int .i64 l.length, by
    have hsz : (⟨l.toArray⟩ : ByteArray).size = l.length := by simp [ByteArray.size]
    simp [execOp, ho, resolve, invoke, builtin, ev_str hs hx, Builtin.len_, run_underlying ht, goInt, hsz], .pv _ _ (.int _ _)⟩
theorem op_len_vs {n : Nat} {T e sz sz' : Nat} {x : Operand} {rows : List (List PV)} (ho : o.op = .call { callee := .builtin .len, args := #[x], argTypes := #[T] }) (hx : ev s x = some (.pv (.vs sz rows))) (hlen : rows.length = n) (ht : sliceB P T e sz' = true) (hd : o.dst = d) (hn : dOk s d = true) :
    OpOk ro P c o s (s.put d (some (.pv (.int .i64 n)))) :=
  opOk_value hd hn (by rw [ho]; intro k h; cases h) fun a w O θ hs => by
    subst hlen
    obtain ⟨i, h1, _, _⟩ := sliceB_spec ht
    obtain ⟨ad, cap, hv, _⟩ := rd_vs_len (ev_pv hs hx)
    exact ⟨.int .i64 rows.length, by simp [execOp, ho, resolve, invoke, builtin, hv, Builtin.len_, run_underlying h1, goInt], .pv _ _ (.int _ _)⟩
theorem op_len_ls {n : Nat} {T e sz sz' e' : Nat} {x : Operand} {id : Nat} {rows : List (List PV)} (ho : o.op = .call { callee := .builtin .len, args := #[x], argTypes := #[T] }) (hx : ev s x = some (.ls id)) (hb : look id s.hp = some (.row e' sz rows)) (hlen : rows.length = n) (ht : sliceB P T e sz' = true) (hd : o.dst = d) (hn : dOk s d = true) :
    OpOk ro P c o s (s.put d (some (.pv (.int .i64 n)))) :=
  opOk_value hd hn (by rw [ho]; intro k h; cases h) fun a w O θ hs => by
    subst hlen
    obtain ⟨i, h1, _, _⟩ := sliceB_spec ht
    have h := ev_ok hs hx
    generalize ha : a.eval x = u at h
    cases h with
    | ls _ _ h =>
      obtain ⟨v', hv', ⟨us, hown, _⟩, _⟩ := hs.hp id _ hb
      rw [h] at hv'; cases hv'
      refine ⟨.int .i64 rows.length, ?_, .pv _ _ (.int _ _)⟩
      rcases hown.2 with ⟨rfl, h4⟩ | ⟨g, cap, cur, rfl, _⟩
      · simp [execOp, ho, resolve, invoke, builtin, ha, Builtin.len_, run_underlying h1, goInt, h4]
      · simp [execOp, ho, resolve, invoke, builtin, ha, Builtin.len_, run_underlying h1, goInt]

/-! Strings. -/
theorem bytes_toList (l : List UInt8) : (⟨l.toArray⟩ : ByteArray).toList = l := by rw [ByteArray.toList_eq]
def strOp (op : BinOp) (x y : List UInt8) : Option PV :=
  match op with
  | .eql => some (.bool (x == y))
  | .neq => some (.bool (!(x == y)))
  | .lss => some (.bool (Op.bytesLess x y))
  | .gtr => some (.bool (!(Op.bytesLess x y || x == y)))
  | .leq => some (.bool (Op.bytesLess x y || x == y))
  | .geq => some (.bool (!(Op.bytesLess x y)))
  | _ => none
theorem op_str {op : BinOp} {T T' : TypeId} {x y : Operand} {l m : List UInt8} {r : PV} (ho : o.op = .binOp op T x y T') (hx : ev s x = some (.pv (.str l))) (hy : ev s y = some (.pv (.str m))) (hr : strOp op l m = some r) (hd : o.dst = d) (hn : dOk s d = true) :
    OpOk ro P c o s (s.put d (some (.pv r))) :=
  opOk_value hd hn (by rw [ho]; intro k h; cases h) fun a w O θ hs => by
    have e1 := ev_str hs hx
    have e2 := ev_str hs hy
    cases op <;> simp only [strOp, Option.some.injEq] at hr <;> cases hr
    all_goals refine ⟨_, ?_, .pv _ _ (.bool _)⟩
    all_goals simp [execOp, ho, eqGuard, binOp, e1, e2, Op.stringOp]
theorem op_concat {T T' : TypeId} {x y : Operand} {l m : List UInt8} (ho : o.op = .binOp .add T x y T') (hx : ev s x = some (.pv (.str l))) (hy : ev s y = some (.pv (.str m))) (hr : l.length + m.length ≤ 9223372036854775807) (hd : o.dst = d) (hn : dOk s d = true) :
    OpOk ro P c o s (s.put d (some (.pv (.str (l ++ m))))) :=
  opOk_value hd hn (by rw [ho]; intro k h; cases h) fun a w O θ hs => by
    have e1 := ev_str hs hx
    have e2 := ev_str hs hy
    refine ⟨.string ⟨(l ++ m).toArray⟩, ?_, .pv _ _ (.str _)⟩
    have h2 : ¬ ((((⟨l.toArray⟩ : ByteArray).size + (⟨m.toArray⟩ : ByteArray).size : Nat) : Int) > IntKind.i64.max) := by
      simp only [ByteArray.size, List.size_toArray]
      have : IntKind.i64.max = 9223372036854775807 := by decide
      omega
    have h3 : ((⟨l.toArray⟩ : ByteArray) ++ (⟨m.toArray⟩ : ByteArray)) = ⟨(l ++ m).toArray⟩ := by
      apply ByteArray.ext
      simp [ByteArray.data_append]
    simp only [execOp, ho, eqGuard, binOp, e1, e2, Op.stringOp, if_neg h2, h3]
    simp

theorem op_eqBool {op : BinOp} {T T' : TypeId} {x y : Operand} {b b' : Bool} (ho : o.op = .binOp op T x y T') (hop : op = .eql ∨ op = .neq) (hx : ev s x = some (.pv (.bool b))) (hy : ev s y = some (.pv (.bool b'))) (ht : P.underlying T = some .bool) (hd : o.dst = d) (hn : dOk s d = true) :
    OpOk ro P c o s (s.put d (some (.pv (.bool (match op with | .eql => b == b' | _ => !(b == b')))))) :=
  opOk_value hd hn (by rw [ho]; intro k h; cases h) fun a w O θ hs => by
    have e1 := ev_bool hs hx
    have e2 := ev_bool hs hy
    rcases hop with rfl | rfl
    · exact ⟨_, by simp [execOp, ho, eqGuard, binOp, e1, e2, Op.equal, Op.maxDepth, run_equalIn_bool' w _ T _ _ ht], .pv _ _ (.bool _)⟩
    · exact ⟨_, by simp [execOp, ho, eqGuard, binOp, e1, e2, Op.equal, Op.maxDepth, run_equalIn_bool' w _ T _ _ ht], .pv _ _ (.bool _)⟩
end
end Go.Abs
