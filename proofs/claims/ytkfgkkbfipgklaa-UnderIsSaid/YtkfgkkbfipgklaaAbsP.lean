/- The abstract layer that the proof stands on: no condition. -/
import Derived.Test.YtkfgkkbfipgklaaAbsO
namespace Go.Abs
open Go.RowKit

abbrev w_i64 (n : Int) : Int := IntKind.i64.wrap n
abbrev w_i32 (n : Int) : Int := IntKind.i32.wrap n
abbrev w_i8 (n : Int) : Int := IntKind.i8.wrap n
abbrev w_i16 (n : Int) : Int := IntKind.i16.wrap n
abbrev w_u8 (n : Int) : Int := IntKind.u8.wrap n
abbrev w_u16 (n : Int) : Int := IntKind.u16.wrap n
abbrev w_u32 (n : Int) : Int := IntKind.u32.wrap n
abbrev w_u64 (n : Int) : Int := IntKind.u64.wrap n

abbrev eI (n : Int) : List PV := [.int .i64 n]
abbrev eI_u8 (n : Int) : List PV := [.int .u8 n]
abbrev eI_i32 (n : Int) : List PV := [.int .i32 n]
abbrev eB (b : Bool) : List PV := [.bool b]
abbrev eS (s : List UInt8) : List PV := [.str s]
abbrev eL {α : Type} (sz : Nat) (e : α → List PV) (l : List α) : List PV := [.vs sz (l.map e)]

theorem go_stop {R S : Type} {a : Option R} {k : S → Option R} {r : R} (h : Ctl.go (.stop a) k = some r) : a = some r := h
def Ctl.elim {R S β : Type} : Ctl R S → (R → β) → (S → β) → β
  | .stop r, f, _ => f r
  | .next s, _, g => g s
theorem elim_stop {R S β : Type} {v : R} {f : R → β} {g : S → β} {x : β} (h : Ctl.elim (.stop v) f g = x) : f v = x := h
theorem elim_next {R S β : Type} {v : S} {f : R → β} {g : S → β} {x : β} (h : Ctl.elim (.next v) f g = x) : g v = x := h

theorem room_str {n m : Nat} {u : Unit} (h : room ((n : Int) + (m : Int)) 1 = some u) : n + m ≤ 9223372036854775807 := by
  have := room_spec h
  omega
theorem or_one {P : Program} {T : Nat} {b : Bool} (h : oneB P T = true) : (oneB P T || b) = true := by rw [h]; rfl
theorem or_agg {P : Program} {T n : Nat} {a : Bool} (h : aggB P T n = true) : (a || aggB P T n) = true := by rw [h]; cases a <;> rfl
theorem cut_map {α β : Type} (f : α → β) {xs r : List α} {nl : Option Int} {nh : Option Int} (e : cutL xs (nl.getD 0) (nh.getD xs.length) = some r) : cutL (xs.map f) (nl.getD 0) (nh.getD (xs.map f).length) = some (r.map f) := by
  rw [List.length_map]; exact cutL_map f e

/-- A nil slice in the place of an empty one. -/
theorem Fn.nils {P : Program} {f : Nat} {args : List PV} {rs : List Res} (i sz : Nat) (hi : args[i]? = some (.vs sz [])) (h : Fn P f args rs) : Fn P f (args.set i .nils) rs := by
  intro w O vs hO hsz hrd
  refine h w O vs hO (by simpa using hsz) fun j p v hp hv => ?_
  by_cases hij : i = j
  · subst hij
    have hlt : i < args.length := (List.getElem?_eq_some_iff.1 hi).1
    have := hrd i .nils v (by simp [hlt]) hv
    rw [hi] at hp; cases hp
    cases this
    exact .vs0 sz
  · exact hrd j p v (by rw [List.getElem?_set_ne hij]; exact hp) hv

section
variable {ro : Option Nat} {P : Program} {c : Cx} {s s' : St} {o : Oper} {d : Option Nat}
theorem op_convStr {T T' : TypeId} {x : Operand} {l : List UInt8} (ho : o.op = .convert T T' x) (hx : ev s x = some (.pv (.str l))) (ht0 : P.underlying T = some .string) (ht : P.underlying T' = some .string) (hd : o.dst = d) (hn : dOk s d = true) :
    OpOk ro P c o s (s.put d (some (.pv (.str l)))) :=
  opOk_value hd hn (by rw [ho]; intro k h; cases h) fun a w O θ hs => ⟨_, by simp [execOp, ho, ev_str hs hx, convert, run_underlying ht0, run_underlying ht], .pv _ _ (.str _)⟩
end
end Go.Abs
namespace Go.Abs
structure A2 (α : Type) where
  a0 : α
  a1 : α
  deriving DecidableEq
structure A3 (α : Type) where
  a0 : α
  a1 : α
  a2 : α
  deriving DecidableEq
structure A4 (α : Type) where
  a0 : α
  a1 : α
  a2 : α
  a3 : α
  deriving DecidableEq
abbrev eA2 {α : Type} (e : α → List PV) (x : A2 α) : List PV := e x.a0 ++ e x.a1
abbrev eA3 {α : Type} (e : α → List PV) (x : A3 α) : List PV := e x.a0 ++ (e x.a1 ++ e x.a2)
abbrev eA4 {α : Type} (e : α → List PV) (x : A4 α) : List PV := e x.a0 ++ (e x.a1 ++ (e x.a2 ++ e x.a3))
end Go.Abs
namespace Go.Abs
theorem rnd_back {ro : Option Nat} {P : Program} {c : Cx} {Q : Exit → Act → World → Prop} {s s' : St} {k : Code} {m : Nat} (h' : RndW ro P c k Q m s') (h : Imp c s s') : RndW ro P c k Q m s := rnd_imp h h'
end Go.Abs
namespace Go.Abs
theorem step_on {ro : Option Nat} {P : Program} {c : Cx} {all : List Oper} {o : Oper} {s s1 s' : St} (hg : Guard all s o true) (ho : OpOk ro P c o s s1) (he : s1 = s') : StepOk ro P c all o s s' := by
  subst he; exact .inl ⟨hg, ho⟩
theorem step_off {ro : Option Nat} {P : Program} {c : Cx} {all : List Oper} {o : Oper} {s s' : St} (hg : Guard all s o false) (hk : ktB s o.dst = true) (he : s' = s.put o.dst (some (.tup []))) : StepOk ro P c all o s s' := .inr ⟨hg, hk, he⟩
end Go.Abs
namespace Go.Abs
section
variable {ro : Option Nat} {P : Program} {c : Cx} {s s' : St} {o : Oper} {d : Option Nat}
theorem op_eqAgg_eql {T T' : TypeId} {x y : Operand} {ps qs : List PV} {ts : List Tag} {r : Bool} (ho : o.op = .binOp .eql T x y T') (hx : ev s x = some (.pv (.agg ps))) (hy : ev s y = some (.pv (.agg qs)))
    (ht : eqB P T ts = true) (hp : ps.map PV.tag = ts.map some) (hq : qs.map PV.tag = ts.map some) (hr : eqCells ps qs = some r) (hd : o.dst = d) (hn : dOk s d = true) :
    OpOk ro P c o s (s.put d (some (.pv (.bool r)))) := op_eqAgg ho (.inl rfl) hx hy ht hp hq hr hd hn
theorem op_eqAgg_neq {T T' : TypeId} {x y : Operand} {ps qs : List PV} {ts : List Tag} {r : Bool} (ho : o.op = .binOp .neq T x y T') (hx : ev s x = some (.pv (.agg ps))) (hy : ev s y = some (.pv (.agg qs)))
    (ht : eqB P T ts = true) (hp : ps.map PV.tag = ts.map some) (hq : qs.map PV.tag = ts.map some) (hr : eqCells ps qs = some r) (hd : o.dst = d) (hn : dOk s d = true) :
    OpOk ro P c o s (s.put d (some (.pv (.bool (!r))))) := op_eqAgg ho (.inr rfl) hx hy ht hp hq hr hd hn
theorem op_eqBool_eql {T T' : TypeId} {x y : Operand} {b b' : Bool} (ho : o.op = .binOp .eql T x y T') (hx : ev s x = some (.pv (.bool b))) (hy : ev s y = some (.pv (.bool b'))) (ht : P.underlying T = some .bool) (hd : o.dst = d) (hn : dOk s d = true) :
    OpOk ro P c o s (s.put d (some (.pv (.bool (b == b'))))) := op_eqBool ho (.inl rfl) hx hy ht hd hn
theorem op_eqBool_neq {T T' : TypeId} {x y : Operand} {b b' : Bool} (ho : o.op = .binOp .neq T x y T') (hx : ev s x = some (.pv (.bool b))) (hy : ev s y = some (.pv (.bool b'))) (ht : P.underlying T = some .bool) (hd : o.dst = d) (hn : dOk s d = true) :
    OpOk ro P c o s (s.put d (some (.pv (.bool (!(b == b')))))) := op_eqBool ho (.inr rfl) hx hy ht hd hn
end
end Go.Abs
namespace Go.Abs
def arrayB (P : Program) (T n e sz : Nat) : Bool := match P.underlying T with
  | some (.array m e') => (m == n && e' == e) && (match P.info? e with | some i => i.size == sz | none => false)
  | _ => false
theorem arrayB_spec {P : Program} {T n e sz : Nat} (h : arrayB P T n e sz = true) : ∃ i, P.underlying T = some (.array n e) ∧ P.info? e = some i ∧ i.size = sz := by
  unfold arrayB at h
  split at h
  · rename_i m e' hu
    simp only [Bool.and_eq_true, beq_iff_eq] at h
    obtain ⟨⟨rfl, rfl⟩, h⟩ := h
    split at h
    · rename_i i hi; exact ⟨i, hu, hi, by simpa using h⟩
    · cases h
  · cases h
def fieldTB (P : Program) (T f ft off : Nat) : Bool := match P.underlying T with
  | some (.struct fs) => match fs[f]? with
    | some fld => fld.type == ft && fld.offset == off
    | none => false
  | _ => false
theorem fieldTB_spec {P : Program} {T f ft off : Nat} (h : fieldTB P T f ft off = true) : ∃ fs fld, P.underlying T = some (.struct fs) ∧ fs[f]? = some fld ∧ fld.type = ft ∧ fld.offset = off := by
  unfold fieldTB at h
  split at h
  · rename_i fs hu
    split at h
    · rename_i fld hf
      simp only [Bool.and_eq_true, beq_iff_eq] at h
      exact ⟨fs, fld, hu, hf, h.1, h.2⟩
    · cases h
  · cases h
section
variable {ro : Option Nat} {P : Program} {c : Cx} {s s' : St} {o : Oper} {d : Option Nat}
theorem run_arrayAt {T n e sz : Nat} (ht : arrayB P T n e sz = true) {k : IntKind} {m : Nat} (hm : Nat.blt m n = true) (w : World) (b off : Nat) :
    (Instr.indexAt T (.pointer (some ⟨b, off, none⟩)) (.int k (m : Int))).run P w = .ok (.pointer (some ⟨b, off + m * sz, none⟩)) w := by
  obtain ⟨i, h1, h2, h3⟩ := arrayB_spec ht
  have hm' : m < n := by simpa [Nat.blt_eq] using hm
  simp [Instr.indexAt, asIntOf, run_underlying h1, Instr.sureAddr, sizeOf, typeInfo, h2, h3, Addr.add_lit]
  intro h
  omega
theorem op_arr_vp {T n e sz m : Nat} {x y : Operand} {k : IntKind} {row r : List PV} (ho : o.op = .indexAddr T x y) (hx : ev s x = some (.pv (.vp row))) (hy : ev s y = some (.pv (.int k (m : Int)))) (ht : arrayB P T n e sz = true) (hm : Nat.blt m n = true) (hr : row.drop (m * sz) = r) (hd : o.dst = d) (hn : dOk s d = true) :
    OpOk ro P c o s (s.put d (some (.pv (.vp r)))) :=
  opOk_value hd hn (by rw [ho]; intro k h; cases h) fun a w O θ hs => by
    obtain ⟨b, off, us, hv, h1, h2, h3, h4, h5⟩ := rd_vp (ev_pv hs hx)
    subst hr
    refine ⟨.pointer (some ⟨b, off + m * sz, none⟩), by simp [execOp, ho, hv, ev_int hs hy, run_arrayAt ht hm], .pv _ _ (.vp _ b _ (fun j => us (m * sz + j)) h1 h2 (fun y hy => h3 y (List.mem_of_mem_drop hy)) (fun j hj => ?_) (fun j y hy => h5 _ y ?_))⟩
    · rw [List.length_drop] at hj
      rw [Nat.add_assoc]
      exact h4 _ (by omega)
    · rwa [List.getElem?_drop] at hy
theorem op_arr_lp {T n e sz m : Nat} {x y : Operand} {k : IntKind} {id off r : Nat} (ho : o.op = .indexAddr T x y) (hx : ev s x = some (.lp id off)) (hy : ev s y = some (.pv (.int k (m : Int)))) (ht : arrayB P T n e sz = true) (hm : Nat.blt m n = true) (hr : off + m * sz = r) (hd : o.dst = d) (hn : dOk s d = true) :
    OpOk ro P c o s (s.put d (some (.lp id r))) :=
  opOk_value hd hn (by rw [ho]; intro k h; cases h) fun a w O θ hs => by
    have h := ev_ok hs hx
    subst hr
    generalize hv : a.eval x = v at h
    cases h with
    | lp _ _ g h => exact ⟨_, by simp [execOp, ho, hv, ev_int hs hy, run_arrayAt ht hm], .lp _ _ g h⟩
theorem op_arr_le {T n e sz m : Nat} {x y : Operand} {k : IntKind} {id sz' i off r : Nat} (ho : o.op = .indexAddr T x y) (hx : ev s x = some (.le id sz' i off)) (hy : ev s y = some (.pv (.int k (m : Int)))) (ht : arrayB P T n e sz = true) (hm : Nat.blt m n = true) (hr : off + m * sz = r) (hd : o.dst = d) (hn : dOk s d = true) :
    OpOk ro P c o s (s.put d (some (.le id sz' i r))) :=
  opOk_value hd hn (by rw [ho]; intro k h; cases h) fun a w O θ hs => by
    have h := ev_ok hs hx
    subst hr
    generalize hv : a.eval x = v at h
    cases h with
    | le _ _ _ _ g n' cap h => exact ⟨.pointer (some ⟨g, i * sz' + (off + m * sz), none⟩), by simp [execOp, ho, hv, ev_int hs hy, run_arrayAt ht hm, Nat.add_assoc], .le _ _ _ _ g n' cap h⟩
theorem op_field1 {T f off : Nat} {ft : TypeId} {x : Operand} {ps : List PV} {p : PV} (ho : o.op = .field T x f) (hx : ev s x = some (.pv (.agg ps))) (hu : fieldTB P T f ft off = true) (ht : oneB P ft = true) (hp : ps[off]? = some p) (hd : o.dst = d) (hn : dOk s d = true) :
    OpOk ro P c o s (s.put d (some (.pv p))) := by
  obtain ⟨fs, fld, h1, h2, h3, h4⟩ := fieldTB_spec hu
  exact op_field_agg1 ho hx h1 h2 h3 h4 ht hp hd hn
theorem op_fieldA {T f off n : Nat} {ft : TypeId} {x : Operand} {ps qs : List PV} (ho : o.op = .field T x f) (hx : ev s x = some (.pv (.agg ps))) (hu : fieldTB P T f ft off = true) (ht : aggB P ft n = true) (hp : (ps.drop off).take n = qs) (hl : qs.length = n) (hd : o.dst = d) (hn : dOk s d = true) :
    OpOk ro P c o s (s.put d (some (.pv (.agg qs)))) := by
  obtain ⟨fs, fld, h1, h2, h3, h4⟩ := fieldTB_spec hu
  exact op_field_agg ho hx h1 h2 h3 h4 ht hp hl hd hn
end
end Go.Abs
namespace Go.Abs
/-! Lists of a type that holds lists of itself: their reading `g` is `List.map f`, but not by definition. -/
section
variable {α : Type} {f : α → List PV} {g : List α → List (List PV)}
theorem lenR (hm : ∀ l, g l = l.map f) {l : List α} : (g l).length = l.length := by rw [hm, List.length_map]
theorem idxR (hm : ∀ l, g l = l.map f) {l : List α} {n : Int} {y : α} (h : idx l n = some y) : idx (g l) n = some (f y) := by rw [hm]; exact idx_map f h
theorem getR (hm : ∀ l, g l = l.map f) {l : List α} {n : Int} {y : α} (h : idx l n = some y) : (g l)[n.toNat]? = some (f y) := by rw [hm]; exact map_get f h
theorem setR (hm : ∀ l, g l = l.map f) (l : List α) (i : Nat) (x : α) : (g l).set i (f x) = g (l.set i x) := by rw [hm, hm]; exact map_set' f l i x
theorem appR (hm : ∀ l, g l = l.map f) (l m : List α) : g l ++ g m = g (l ++ m) := by rw [hm, hm, hm, List.map_append]
theorem cpR (hm : ∀ l, g l = l.map f) (l m : List α) : (g m).take (g l).length ++ (g l).drop (g m).length = g (m.take l.length ++ l.drop m.length) := by rw [hm, hm, hm]; exact map_cp f l m
theorem repR (hm : ∀ l, g l = l.map f) (n : Nat) (x : α) : List.replicate n (f x) = g (List.replicate n x) := by rw [hm]; exact map_rep f n x
theorem cutR (hm : ∀ l, g l = l.map f) {xs r : List α} {nl nh : Option Int} (e : cutL xs (nl.getD 0) (nh.getD xs.length) = some r) : cutL (g xs) (nl.getD 0) (nh.getD (g xs).length) = some (g r) := by rw [hm, hm]; exact cut_map f e
theorem roomR (hm : ∀ l, g l = l.map f) {l m : List α} {b : Nat} {u : Unit} (h : room ((l.length : Int) + (m.length : Int)) (b : Int) = some u) : ((g l).length + (g m).length) * b ≤ 140737488355328 := by rw [hm, hm]; exact room_map h
end
section
variable {ro : Option Nat} {P : Program} {c : Cx} {s s' : St} {o : Oper} {d : Option Nat}
theorem op_litR {T e sz n : Nat} {parts : List (Nat × Operand)} {z : Value} {zs : List PV} {rows rows' : List (List PV)} {xs : List (Nat × AV)} (ho : o.op = .buildSlice T n parts.toArray) (hrn : rows.length = n) (ht : sliceB P T e sz = true) (hz : zeroIs P e z) (hzs : czs z.cells.toList zs)
    (hzl : zs.length = sz) (hsz : Nat.blt 0 sz = true) (hlen : Nat.ble (n * sz) 16777216 = true) (hx : evs s parts = some xs) (hr : fillPV ((List.range n).map fun i => (i * sz, sz)) (List.replicate n zs).flatten xs = some rows.flatten) (hrow : (rows.all fun row => Nat.beq row.length sz) = true) (he : rows' = rows)
    (hd : o.dst = d) (hn : dOk s d = true) : OpOk ro P c o s (s.put d (some (.pv (.vs sz rows')))) := by rw [he]; exact op_lit ho hrn ht hz hzs hzl hsz hlen hx hr hrow hd hn
theorem op_litOwnR (kk : Nat) (hk : freshB s kk = true) {T e sz n : Nat} {parts : List (Nat × Operand)} {z : Value} {zs : List PV} {rows rows' : List (List PV)} {xs : List (Nat × AV)} (ho : o.op = .buildSlice T n parts.toArray) (hrn : rows.length = n) (ht : sliceB P T e sz = true) (hz : zeroIs P e z) (hzs : czs z.cells.toList zs)
    (hzl : zs.length = sz) (hsz : Nat.blt 0 sz = true) (hlen : Nat.ble (n * sz) 16777216 = true) (hx : evs s parts = some xs) (hr : fillPV ((List.range n).map fun i => (i * sz, sz)) (List.replicate n zs).flatten xs = some rows.flatten) (hrow : (rows.all fun row => Nat.beq row.length sz) = true) (he : rows' = rows)
    (hd : o.dst = d) (hn : dOk s d = true) : OpOk ro P c o s ((s.addAt kk none (.row e sz rows')).put d (some (.ls kk))) := by rw [he]; exact op_litOwn kk hk ho hrn ht hz hzs hzl hsz hlen hx hr hrow hd hn
end
end Go.Abs
namespace Go.Abs
/-- A box's cell that holds nil: taken as an empty slice. -/
theorem imp_nil_cell {c : Cx} {s : St} (id off t sz : Nat) {cells : List AV} (hb : look id s.hp = some (.box t cells)) (h : cells[off]? = some (.pv .nils)) : Imp c s (s.setBlk id (some (.box t (cells.set off (.pv (.vs sz [])))))) := by
  rintro a w ⟨O, θ, hs⟩
  obtain ⟨v, hv, ⟨g, us, rfl, k1, k2, k3⟩, k4⟩ := hs.hp id _ hb
  refine ⟨O, θ, hs.upd hb hv (World.grownBy.refl w _) ⟨g, us, rfl, k1, by simpa using k2, fun j x u hx hu => ?_⟩⟩
  rw [List.getElem?_set] at hx
  split at hx
  · rename_i e; subst e
    split at hx
    · cases hx
      obtain ⟨m1, m2⟩ := k3 off _ u h hu
      have := rda_pv m1
      cases this
      exact ⟨.pv _ _ (.vs0 sz), m2⟩
    · cases hx
  · exact k3 j x u hx hu
end Go.Abs
namespace Go.Abs
/-- A result taken for something that nobody writes any more. -/
def Res.fz : Res → Res
  | .p x => .p x
  | .own _ sz rows => .p (.vs sz rows)
  | .clo _ _ _ _ _ => .p .nils
def Res.noclo : Res → Bool
  | .clo _ _ _ _ _ => false
  | _ => true
theorem ResOk.fz {w : World} {O : Nat → Prop} {lo : Nat} {r : Res} {v : Value} (hc : r.noclo = true) (h : ResOk w O lo r v) : ResOk w (fun g => O g ∧ g < lo) lo r.fz v := by
  cases r with
  | clo => cases hc
  | p x => exact Rd.mono (w := w) (w' := w) (O := O) (O' := fun g => O g ∧ g < lo) (Nat.le_refl _) (fun b _ hn => ⟨fun h2 => hn h2.1, rfl⟩) h
  | own e sz rows =>
    obtain ⟨⟨us, hown, hrd⟩, _, hg⟩ := h
    have hrd' : RowsRd w (fun g => O g ∧ g < lo) sz rows us := hrd.mono (Nat.le_refl _) (fun b _ hn => ⟨fun h2 => hn h2.1, rfl⟩)
    rcases hown.2 with ⟨rfl, h4⟩ | ⟨g, cap, cur, rfl, _, hgh, hnc, hcm, hcs, ht⟩
    · have : rows = [] := List.eq_nil_of_length_eq_zero h4
      subst this
      exact Rd.vs0 sz
    · have := rd_vs_of_rows hrd' hgh ht (fun h => by have := (hg g rfl).1; omega) hnc hcm
      exact this
theorem Fn.frozen {P : Program} {f : Nat} {args : List PV} {rs : List Res} (h : Fn P f args rs) (hc : (rs.all Res.noclo) = true := by rfl) : Fn P f args (rs.map Res.fz) := by
  have hc' : ∀ r ∈ rs, r.noclo = true := List.all_eq_true.1 hc
  intro w O vs hO hsz hrd
  refine (h w O vs hO hsz hrd).mono ?_
  rintro e w' ⟨v, O', rfl, hg, hOO, hr⟩
  refine ⟨v, fun g => O' g ∧ g < w.heap.size, rfl, hg, fun g hgg => ⟨hOO g hgg, hO g hgg⟩, ?_⟩
  match rs, hc', hr with
  | [r], hc', hr => exact ResOk.fz (hc' r (by simp)) hr
  | [], _, ⟨us, h1, h2, h3⟩ => exact ⟨us, h1, h2, fun i r u hr => by simp at hr⟩
  | r :: r' :: rs, hc', ⟨us, h1, h2, h3⟩ =>
    refine ⟨us, h1, by simpa using h2, fun i x u hx hu => ?_⟩
    have hx' : ((r :: r' :: rs).map Res.fz)[i]? = some x := hx
    rw [List.getElem?_map, Option.map_eq_some_iff] at hx'
    obtain ⟨r0, hr0, rfl⟩ := hx'
    exact ResOk.fz (hc' r0 (List.mem_of_getElem? hr0)) (h3 i r0 u hr0 hu)
end Go.Abs
namespace Go.Abs
def A2.l {α : Type} (x : A2 α) : List α := [x.a0, x.a1]
def A3.l {α : Type} (x : A3 α) : List α := [x.a0, x.a1, x.a2]
def A4.l {α : Type} (x : A4 α) : List α := [x.a0, x.a1, x.a2, x.a3]
section
variable {ro : Option Nat} {P : Program} {c : Cx} {s s' : St} {o : Oper} {d : Option Nat}
/-- An array's element of one cell, at whatever index. -/
theorem op_arr_vp1 {T n e : Nat} {x y : Operand} {k : IntKind} {i : Int} {row : List PV} {α : Type} {l : List α} {g : α → PV} {z : α} (ho : o.op = .indexAddr T x y) (hx : ev s x = some (.pv (.vp row))) (hy : ev s y = some (.pv (.int k i))) (ht : arrayB P T n e 1 = true) (hrow : row.take n = l.map g) (hl : l.length = n) (hi : idx l i = some z) (hd : o.dst = d) (hn : dOk s d = true) :
    OpOk ro P c o s (s.put d (some (.pv (.vp [g z])))) :=
  opOk_value hd hn (by rw [ho]; intro k h; cases h) fun a w O θ hs => by
    obtain ⟨b, off, us, hv, h1, h2, h3, h4, h5⟩ := rd_vp (ev_pv hs hx)
    obtain ⟨i0, i1, i2⟩ := idx_spec hi
    have hm : i = ((i.toNat : Nat) : Int) := by omega
    have hlt : i.toNat < n := by omega
    have hg : row[i.toNat]? = some (g z) := by
      have : (row.take n)[i.toNat]? = some (g z) := by rw [hrow, List.getElem?_map, i1]; rfl
      rw [List.getElem?_take, if_pos hlt] at this
      exact this
    have hrl : i.toNat < row.length := (List.getElem?_eq_some_iff.1 hg).1
    have hrun := run_arrayAt (P := P) ht (k := k) (m := i.toNat) (by simpa [Nat.blt_eq] using hlt) w b off
    rw [← hm, Nat.mul_one] at hrun
    refine ⟨.pointer (some ⟨b, off + i.toNat, none⟩), by simp [execOp, ho, hv, ev_int hs hy, hrun], .pv _ _ (.vp [g z] b _ (fun j => us (i.toNat + j)) h1 h2 (fun q hq => ?_) (fun j hj => ?_) (fun j q hq => ?_))⟩
    · simp at hq; subst hq; exact h3 _ (List.mem_of_getElem? hg)
    · simp at hj; subst hj; rw [Nat.add_zero, Nat.add_zero]; exact h4 _ hrl
    · cases j with
      | zero => simp at hq; subst hq; rw [Nat.add_zero]; exact h5 _ _ hg
      | succ j => simp at hq
end
end Go.Abs
namespace Go.Abs
theorem arr_cell {cells : List AV} {off n : Nat} {α : Type} {l : List α} {g : α → PV} {i : Int} {z : α} (hc : (cells.drop off).take n = l.map fun z => .pv (g z)) (hl : l.length = n) (h : idx l i = some z) : cells[off + i.toNat]? = some (.pv (g z)) := by
  obtain ⟨i0, i1, i2⟩ := idx_spec h
  have : ((cells.drop off).take n)[i.toNat]? = some (.pv (g z)) := by rw [hc, List.getElem?_map, i1]; rfl
  rw [List.getElem?_take, if_pos (by omega), List.getElem?_drop] at this
  exact this
section
variable {ro : Option Nat} {P : Program} {c : Cx} {s s' : St} {o : Oper} {d : Option Nat}
theorem op_arr_lp1 {T n e : Nat} {x y : Operand} {k : IntKind} {i : Int} {id off : Nat} {α : Type} {l : List α} {z : α} (ho : o.op = .indexAddr T x y) (hx : ev s x = some (.lp id off)) (hy : ev s y = some (.pv (.int k i))) (ht : arrayB P T n e 1 = true) (hl : l.length = n) (hi : idx l i = some z) (hd : o.dst = d) (hn : dOk s d = true) :
    OpOk ro P c o s (s.put d (some (.lp id (off + i.toNat)))) :=
  opOk_value hd hn (by rw [ho]; intro k h; cases h) fun a w O θ hs => by
    have h := ev_ok hs hx
    obtain ⟨i0, i1, i2⟩ := idx_spec hi
    have hm : i = ((i.toNat : Nat) : Int) := by omega
    have hlt : i.toNat < n := by omega
    generalize hv : a.eval x = v at h
    cases h with
    | lp _ _ g h =>
      have hrun := run_arrayAt (P := P) ht (k := k) (m := i.toNat) (by simpa [Nat.blt_eq] using hlt) w g off
      rw [← hm, Nat.mul_one] at hrun
      exact ⟨_, by simp [execOp, ho, hv, ev_int hs hy, hrun], .lp _ _ g h⟩
end
end Go.Abs
namespace Go.Abs
theorem flat_cut {α β : Type} {f : α → List β} {sz : Nat} (hf : ∀ z, (f z).length = sz) : ∀ (l : List α) (i : Nat) (z : α), l[i]? = some z → (((l.map f).flatten).drop (i * sz)).take sz = f z
  | [], i, z, h => by simp at h
  | x :: l, 0, z, h => by
    simp at h; subst h
    simp only [List.map_cons, List.flatten_cons, Nat.zero_mul, List.drop_zero]
    rw [List.take_append_of_le_length (by rw [hf]; exact Nat.le_refl _), List.take_of_length_le (by rw [hf]; exact Nat.le_refl _)]
  | x :: l, i + 1, z, h => by
    simp at h
    simp only [List.map_cons, List.flatten_cons]
    rw [show (i + 1) * sz = (f x).length + i * sz by rw [hf, Nat.add_mul, Nat.one_mul, Nat.add_comm], List.drop_append, List.drop_eq_nil_of_le (by omega), List.nil_append, Nat.add_sub_cancel_left]
    exact flat_cut hf l i z h
theorem arr_cellN {cells : List AV} {off n sz j : Nat} {α : Type} {l : List α} {f : α → List PV} {i : Int} {z : α} {p : PV} (hc : (cells.drop off).take (n * sz) = ((l.map f).flatten).map .pv) (hf : ∀ z, (f z).length = sz) (hl : l.length = n) (h : idx l i = some z) (hj : (f z)[j]? = some p) : cells[off + i.toNat * sz + j]? = some (.pv p) := by
  obtain ⟨i0, i1, i2⟩ := idx_spec h
  have hjz : j < sz := by have := (List.getElem?_eq_some_iff.1 hj).1; rw [hf] at this; exact this
  have hlt : i.toNat * sz + j < n * sz := index_lt (by omega) hjz
  have e : ((cells.drop off).take (n * sz))[i.toNat * sz + j]? = some (.pv p) := by
    rw [hc, List.getElem?_map]
    have h2 := flat_cut hf l i.toNat z i1
    have : (((l.map f).flatten).drop (i.toNat * sz)).take sz = f z := h2
    have h3 : ((((l.map f).flatten).drop (i.toNat * sz)).take sz)[j]? = some p := by rw [this]; exact hj
    rw [List.getElem?_take, if_pos hjz, List.getElem?_drop] at h3
    rw [h3]; rfl
  rw [List.getElem?_take, if_pos hlt, List.getElem?_drop] at e
  rw [Nat.add_assoc]; exact e
end Go.Abs
namespace Go.Abs
section
variable {ro : Option Nat} {P : Program} {c : Cx} {s s' : St} {o : Oper} {d : Option Nat}
theorem op_arr_lpN {T n e sz : Nat} {x y : Operand} {k : IntKind} {i : Int} {id off : Nat} {α : Type} {l : List α} {z : α} (ho : o.op = .indexAddr T x y) (hx : ev s x = some (.lp id off)) (hy : ev s y = some (.pv (.int k i))) (ht : arrayB P T n e sz = true) (hl : l.length = n) (hi : idx l i = some z) (hd : o.dst = d) (hn : dOk s d = true) :
    OpOk ro P c o s (s.put d (some (.lp id (off + i.toNat * sz)))) :=
  opOk_value hd hn (by rw [ho]; intro k h; cases h) fun a w O θ hs => by
    have h := ev_ok hs hx
    obtain ⟨i0, i1, i2⟩ := idx_spec hi
    have hm : i = ((i.toNat : Nat) : Int) := by omega
    have hlt : i.toNat < n := by omega
    generalize hv : a.eval x = v at h
    cases h with
    | lp _ _ g h =>
      have hrun := run_arrayAt (P := P) ht (k := k) (m := i.toNat) (by simpa [Nat.blt_eq] using hlt) w g off
      rw [← hm] at hrun
      exact ⟨_, by simp [execOp, ho, hv, ev_int hs hy, hrun], .lp _ _ g h⟩
end
end Go.Abs
namespace Go.Abs
theorem pvs_map : ∀ l : List PV, pvs (l.map .pv) = some l
  | [] => rfl
  | p :: l => by simp [pvs, pvs_map l]
theorem arr_cellsN {cells : List AV} {off n sz : Nat} {α : Type} {l : List α} {f : α → List PV} {i : Int} {z : α} (hc : (cells.drop off).take (n * sz) = ((l.map f).flatten).map .pv) (hf : ∀ z, (f z).length = sz) (hl : l.length = n) (h : idx l i = some z) : pvs ((cells.drop (off + i.toNat * sz)).take sz) = some (f z) := by
  obtain ⟨i0, i1, i2⟩ := idx_spec h
  have hle : i.toNat * sz + sz ≤ n * sz := by
    have : (i.toNat + 1) * sz ≤ n * sz := Nat.mul_le_mul_right _ (by omega)
    rw [Nat.add_mul, Nat.one_mul] at this; exact this
  have e : (cells.drop (off + i.toNat * sz)).take sz = (((cells.drop off).take (n * sz)).drop (i.toNat * sz)).take sz := by
    rw [List.drop_take, List.take_take, List.drop_drop, Nat.min_eq_left (by omega)]
  rw [e, hc, ← List.map_drop, ← List.map_take, flat_cut hf l i.toNat z i1, pvs_map]
end Go.Abs
