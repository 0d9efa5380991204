/- The abstract layer that the proof stands on: no condition. -/
import Derived.Test.YtkfgkkbfipgklaaAbsC
import Derived.Laws.Entries
import Derived.Laws.Cells
import Derived.KernelRfl
namespace Go.Abs
open Go.RowKit

/-! Facts on the table of types, as closed Bools. -/
def fieldB (P : Program) (T f off : Nat) : Bool :=
  match P.underlying T with
  | some (.struct fs) => match fs[f]? with
    | some fld => fld.offset == off && (match P.info? fld.type with | some i => i.size != 0 | none => false)
    | none => false
  | _ => false
def sliceB (P : Program) (T e sz : Nat) : Bool :=
  match P.underlying T with
  | some (.slice e') => e' == e && (match P.info? e' with | some i => i.size == sz | none => false)
  | _ => false
def aggB (P : Program) (T n : Nat) : Bool :=
  (match P.underlying T with | some (.struct _) => true | some (.array _ _) => true | _ => false) && (match P.info? T with | some i => i.size == n | none => false)
def oneB (P : Program) (T : Nat) : Bool :=
  (match P.underlying T with | some (.struct _) => false | some (.array _ _) => false | some _ => true | none => false) && (match P.info? T with | some i => i.size == 1 | none => false)

section
variable {P : Program} {T f off e sz n : Nat}
theorem fieldB_spec (h : fieldB P T f off = true) : ∃ fs fld i, P.underlying T = some (.struct fs) ∧ fs[f]? = some fld ∧ fld.offset = off ∧ P.info? fld.type = some i ∧ i.size ≠ 0 := by
  unfold fieldB at h
  split at h
  · rename_i fs hu
    split at h
    · rename_i fld hf
      simp only [Bool.and_eq_true, beq_iff_eq] at h
      obtain ⟨h1, h2⟩ := h
      split at h2
      · rename_i i hi; exact ⟨fs, fld, i, hu, hf, h1, hi, by simpa using h2⟩
      · cases h2
    · cases h
  · cases h
theorem sliceB_spec (h : sliceB P T e sz = true) : ∃ i, P.underlying T = some (.slice e) ∧ P.info? e = some i ∧ i.size = sz := by
  unfold sliceB at h
  split at h
  · rename_i e' hu
    simp only [Bool.and_eq_true, beq_iff_eq] at h
    obtain ⟨rfl, h2⟩ := h
    split at h2
    · rename_i i hi; exact ⟨i, hu, hi, by simpa using h2⟩
    · cases h2
  · cases h
theorem aggB_spec (h : aggB P T n = true) : (∀ w, (isAgg T).run P w = .ok true w) ∧ (∀ w, (sizeOf T).run P w = .ok n w) ∧ ∃ i, P.info? T = some i ∧ i.size = n := by
  unfold aggB at h
  simp only [Bool.and_eq_true] at h
  obtain ⟨h1, h2⟩ := h
  split at h2
  · rename_i i hi
    have hs : i.size = n := by simpa using h2
    refine ⟨fun w => ?_, fun w => by simp [sizeOf, typeInfo, hi, hs], i, hi, hs⟩
    split at h1
    · rename_i fs hu; simp [isAgg, run_underlying hu]
    · rename_i a b hu; simp [isAgg, run_underlying hu]
    · cases h1
  · cases h2
theorem oneB_spec (h : oneB P T = true) : (∀ w, (isAgg T).run P w = .ok false w) ∧ (∀ w, (sizeOf T).run P w = .ok 1 w) ∧ ∃ i, P.info? T = some i ∧ i.size = 1 := by
  unfold oneB at h
  simp only [Bool.and_eq_true] at h
  obtain ⟨h1, h2⟩ := h
  split at h2
  · rename_i i hi
    have hs : i.size = 1 := by simpa using h2
    refine ⟨fun w => ?_, fun w => by simp [sizeOf, typeInfo, hi, hs], i, hi, hs⟩
    split at h1
    · cases h1
    · cases h1
    · rename_i d hn1 hn2 hu
      cases d <;> first | (simp [isAgg, run_underlying hu]; done) | (exact absurd rfl (hn1 _)) | (exact absurd rfl (hn2 _ _))
    · cases h1
  · cases h2
end

/-- The element at index `n`. -/
def idx {α : Type} (l : List α) (n : Int) : Option α := if 0 ≤ n then l[n.toNat]? else none
theorem idx_map {α β : Type} (f : α → β) {l : List α} {n : Int} {y : α} (h : idx l n = some y) : idx (l.map f) n = some (f y) := by
  unfold idx at *
  split at h
  · rename_i h0; rw [if_pos h0, List.getElem?_map, h]; rfl
  · cases h
theorem idx_spec {α : Type} {l : List α} {n : Int} {y : α} (h : idx l n = some y) : 0 ≤ n ∧ l[n.toNat]? = some y ∧ n < l.length := by
  unfold idx at h
  split at h
  · rename_i h0
    have := (List.getElem?_eq_some_iff.1 h).1
    exact ⟨h0, h, by omega⟩
  · cases h

section
variable {w : World} {O : Nat → Prop}
/-- Inversions of `Rd`. -/
theorem rd_vp {row : List PV} {v : Value} (h : Rd w O (.vp row) v) : ∃ (b off : Nat) (us : Nat → Value), v = .pointer (some ⟨b, off, none⟩) ∧ ¬ O b ∧ b < w.heap.size ∧ (∀ x ∈ row, x.one = true) ∧
    (∀ k, k < row.length → w.cell? ⟨b, off + k, none⟩ = some (us k)) ∧ ∀ (j : Nat) (x : PV), row[j]? = some x → Rd w O x (us j) := by
  cases h with | vp _ b off us h1 h2 h3 h4 h5 => exact ⟨b, off, us, rfl, h1, h2, h3, h4, h5⟩
theorem rd_agg {ps : List PV} {v : Value} (h : Rd w O (.agg ps) v) : ∃ us : Array Value, v = .agg us ∧ us.size = ps.length ∧ (∀ x ∈ ps, x.one = true) ∧
    ∀ (i : Nat) (x : PV) (u : Value), ps[i]? = some x → us[i]? = some u → Rd w O x u := by
  cases h with | agg _ us h1 h2 h3 => exact ⟨us, rfl, h1, h2, h3⟩
theorem rd_vs {sz : Nat} {rows : List (List PV)} {v : Value} (h : Rd w O (.vs sz rows) v) : (∃ (a : Option Addr) (cap : Nat), v = .slice a 0 cap ∧ rows = [] ∧ (a = none → cap = 0) ∧ cap ≤ maxLen) ∨ ∃ (b off cap : Nat) (us : Nat → Value), v = .slice (some ⟨b, off, none⟩) rows.length cap ∧ ¬ O b ∧ b < w.heap.size ∧ rows.length ≤ cap ∧ cap ≤ maxLen ∧
    (∀ row ∈ rows, row.length = sz) ∧ (∀ row ∈ rows, ∀ x ∈ row, x.one = true) ∧ (∀ k, k < rows.length * sz → w.cell? ⟨b, off + k, none⟩ = some (us k)) ∧
    ∀ (i j : Nat) (row : List PV) (x : PV), rows[i]? = some row → row[j]? = some x → Rd w O x (us (i * sz + j)) := by
  cases h with
  | vsz _ a cap h0 hm => exact .inl ⟨a, cap, rfl, rfl, h0, hm⟩
  | vs _ _ b off cap us h1 h2 h3 h4 h5 h6 h7 h8 => exact .inr ⟨b, off, cap, us, rfl, h1, h2, h3, h4, h5, h6, h7, h8⟩
theorem rd_vs_len {sz : Nat} {rows : List (List PV)} {v : Value} (h : Rd w O (.vs sz rows) v) : ∃ a cap, v = .slice a rows.length cap ∧ rows.length ≤ maxLen := by
  rcases rd_vs h with ⟨a, cap, rfl, rfl, _, _⟩ | ⟨b, off, cap, us, rfl, _, _, h1, h2, _⟩
  · exact ⟨a, cap, rfl, by simp⟩
  · exact ⟨_, cap, rfl, by omega⟩
theorem index_lt {i j n sz : Nat} (hi : i < n) (hj : j < sz) : i * sz + j < n * sz := by
  have : (i + 1) * sz ≤ n * sz := Nat.mul_le_mul_right sz hi
  rw [Nat.add_mul] at this
  omega
/-- One row of a slice, by its address. -/
theorem rd_row {sz : Nat} {rows : List (List PV)} {b off cap n : Nat} {row : List PV} (h : Rd w O (.vs sz rows) (.slice (some ⟨b, off, none⟩) rows.length cap)) (hr : rows[n]? = some row) : Rd w O (.vp row) (.pointer (some ⟨b, off + n * sz, none⟩)) := by
  rcases rd_vs h with ⟨_, _, _, rfl, _⟩ | ⟨b', off', cap', us, h, h1, h2, h3, h4, h5, h6, h7, h8⟩
  · simp at hr
  · injection h with ha _ _
    injection ha with ha; injection ha with e1 e2
    subst e1; subst e2
    have hn : n < rows.length := (List.getElem?_eq_some_iff.1 hr).1
    have hm : row ∈ rows := List.mem_of_getElem? hr
    have hl : row.length = sz := h5 row hm
    refine .vp row b _ (fun k => us (n * sz + k)) h1 h2 (h6 row hm) (fun k hk => ?_) (fun j x hx => h8 n j row x hr hx)
    have := index_lt hn (show k < sz by omega)
    rw [Nat.add_assoc]
    exact h7 _ this
end

section
variable {ro : Option Nat} {P : Program} {c : Cx} {s s' : St} {o : Oper} {d : Option Nat}

theorem run_fieldAt {T f off : Nat} (hf : fieldB P T f off = true) (w : World) (b k : Nat) :
    (Instr.fieldAt T (.pointer (some ⟨b, k, none⟩)) f).run P w = .ok (.pointer (some ⟨b, k + off, none⟩)) w := by
  obtain ⟨fs, fld, i, h1, h2, h3, h4, h5⟩ := fieldB_spec hf
  simp [Instr.fieldAt, run_underlying h1, h2, Instr.sureAddr, fieldPlace, sizeOf, typeInfo, h4, h5, Addr.add_lit, h3]

theorem op_field_vp {T f off : Nat} {x : Operand} {row : List PV} (ho : o.op = .fieldAddr T x f) (hx : ev s x = some (.pv (.vp row))) (hf : fieldB P T f off = true) (hd : o.dst = d) (hn : dOk s d = true) :
    OpOk ro P c o s (s.put d (some (.pv (.vp (row.drop off))))) :=
  opOk_value hd hn (by rw [ho]; intro k h; cases h) fun a w O θ hs => by
    obtain ⟨b, k, us, hv, h1, h2, h3, h4, h5⟩ := rd_vp (ev_pv hs hx)
    refine ⟨.pointer (some ⟨b, k + off, none⟩), by simp [execOp, ho, hv, run_fieldAt hf], .pv _ _ (.vp _ b _ (fun j => us (off + j)) h1 h2 (fun y hy => h3 y (List.mem_of_mem_drop hy)) (fun j hj => ?_) (fun j y hy => h5 _ y ?_))⟩
    · rw [List.length_drop] at hj
      rw [Nat.add_assoc]
      exact h4 _ (by omega)
    · rwa [List.getElem?_drop] at hy

theorem op_field_lp {T f off : Nat} {x : Operand} {id k : Nat} (ho : o.op = .fieldAddr T x f) (hx : ev s x = some (.lp id k)) (hf : fieldB P T f off = true) (hd : o.dst = d) (hn : dOk s d = true) :
    OpOk ro P c o s (s.put d (some (.lp id (k + off)))) :=
  opOk_value hd hn (by rw [ho]; intro k h; cases h) fun a w O θ hs => by
    have h := ev_ok hs hx
    generalize hv : a.eval x = v at h
    cases h with
    | lp _ _ g h => exact ⟨_, by simp [execOp, ho, hv, run_fieldAt hf], .lp _ _ g h⟩

theorem op_field_le {T f off : Nat} {x : Operand} {id sz i k : Nat} (ho : o.op = .fieldAddr T x f) (hx : ev s x = some (.le id sz i k)) (hf : fieldB P T f off = true) (hd : o.dst = d) (hn : dOk s d = true) :
    OpOk ro P c o s (s.put d (some (.le id sz i (k + off)))) :=
  opOk_value hd hn (by rw [ho]; intro k h; cases h) fun a w O θ hs => by
    have h := ev_ok hs hx
    generalize hv : a.eval x = v at h
    cases h with
    | le _ _ _ _ g n cap h => exact ⟨.pointer (some ⟨g, i * sz + (k + off), none⟩), by simp [execOp, ho, hv, run_fieldAt hf, Nat.add_assoc], .le _ _ _ _ g n cap h⟩

theorem op_index_vs {T e sz : Nat} {x y : Operand} {k : IntKind} {n : Int} {rows : List (List PV)} {row : List PV} (ho : o.op = .indexAddr T x y) (hx : ev s x = some (.pv (.vs sz rows))) (hy : ev s y = some (.pv (.int k n)))
    (hr : idx rows n = some row) (ht : sliceB P T e sz = true) (hd : o.dst = d) (hn : dOk s d = true) : OpOk ro P c o s (s.put d (some (.pv (.vp row)))) :=
  opOk_value hd hn (by rw [ho]; intro k h; cases h) fun a w O θ hs => by
    obtain ⟨h0, hr', hlt⟩ := idx_spec hr
    obtain ⟨i, h1, h2, h3⟩ := sliceB_spec ht
    have hv := ev_pv hs hx
    have hi := ev_int hs hy
    rcases rd_vs hv with ⟨_, _, _, rfl, _⟩ | ⟨b, off, cap, us, he, h4⟩
    · simp at hlt; omega
    · rw [he] at hv
      refine ⟨_, ?_, .pv _ _ (rd_row hv hr')⟩
      simp [execOp, ho, he, hi, Instr.indexAt, asIntOf, run_underlying h1, h0, hlt, sizeOf, typeInfo, h2, h3, Addr.add_lit]

theorem op_index_ls {T e e' sz : Nat} {x y : Operand} {k : IntKind} {n : Int} {id : Nat} {rows : List (List PV)} {row : List PV} (ho : o.op = .indexAddr T x y) (hx : ev s x = some (.ls id)) (hy : ev s y = some (.pv (.int k n)))
    (hb : look id s.hp = some (.row e' sz rows)) (hr : idx rows n = some row) (ht : sliceB P T e sz = true) (hd : o.dst = d) (hn : dOk s d = true) : OpOk ro P c o s (s.put d (some (.le id sz n.toNat 0))) :=
  opOk_value hd hn (by rw [ho]; intro k h; cases h) fun a w O θ hs => by
    obtain ⟨h0, hr', hlt⟩ := idx_spec hr
    obtain ⟨i, h1, h2, h3⟩ := sliceB_spec ht
    have h := ev_ok hs hx
    have hi := ev_int hs hy
    generalize hv : a.eval x = v at h
    cases h with
    | ls _ _ h =>
      obtain ⟨v', hv', ⟨us, hown, _⟩, _⟩ := hs.hp id _ hb
      rw [h] at hv'; cases hv'
      rcases hown.2 with ⟨_, h4⟩ | ⟨g, cap, cur, he, _⟩
      · rw [h4] at hlt; simp at hlt; omega
      · subst he
        exact ⟨.pointer (some ⟨g, n.toNat * sz, none⟩), by simp [execOp, ho, hv, hi, Instr.indexAt, asIntOf, run_underlying h1, h0, hlt, sizeOf, typeInfo, h2, h3, Addr.add_lit], .le _ _ _ 0 g _ cap h⟩

theorem run_loadAt_one {T : Nat} (ht : oneB P T = true) (w : World) (a : Addr) (u : Value) (h : w.cell? a = some u) : (Instr.loadAt T (.pointer (some a))).run P w = .ok u w := by
  obtain ⟨h1, h2, _⟩ := oneB_spec ht
  simp [Instr.loadAt, Instr.sureAddr, loadVar, h1, load, Sem.run, h]
theorem run_loadAt_agg {T n : Nat} (ht : aggB P T n = true) (w : World) (a : Addr) (us : List Value) (hl : us.length = n) (h : ∀ j u, us[j]? = some u → w.cell? (a.add j) = some u) :
    (Instr.loadAt T (.pointer (some a))).run P w = .ok (.agg us.toArray) w := by
  obtain ⟨h1, h2, _⟩ := aggB_spec ht
  have := run_loadCells_list (P := P) w a us h
  rw [hl] at this
  simp [Instr.loadAt, Instr.sureAddr, loadVar, h1, h2, this]

theorem op_load_vp {T : Nat} {x : Operand} {row : List PV} {p : PV} (ho : o.op = .load T x) (hx : ev s x = some (.pv (.vp row))) (hp : row[0]? = some p) (ht : oneB P T = true) (hd : o.dst = d) (hn : dOk s d = true) :
    OpOk ro P c o s (s.put d (some (.pv p))) :=
  opOk_value hd hn (by rw [ho]; intro k h; cases h) fun a w O θ hs => by
    obtain ⟨b, k, us, hv, h1, h2, h3, h4, h5⟩ := rd_vp (ev_pv hs hx)
    have h0 := h4 0 (List.getElem?_eq_some_iff.1 hp).1
    rw [Nat.add_zero] at h0
    exact ⟨us 0, by simp [execOp, ho, hv, run_loadAt_one ht w _ _ h0], .pv _ _ (h5 0 p hp)⟩

theorem op_load_vp_agg {T n : Nat} {x : Operand} {row : List PV} {ps : List PV} (ho : o.op = .load T x) (hx : ev s x = some (.pv (.vp row))) (hp : row.take n = ps) (hl : ps.length = n) (ht : aggB P T n = true) (hd : o.dst = d) (hn : dOk s d = true) :
    OpOk ro P c o s (s.put d (some (.pv (.agg ps)))) :=
  opOk_value hd hn (by rw [ho]; intro k h; cases h) fun a w O θ hs => by
    obtain ⟨b, k, us, hv, h1, h2, h3, h4, h5⟩ := rd_vp (ev_pv hs hx)
    subst hp
    rw [List.length_take] at hl
    refine ⟨_, by
      have := run_loadAt_agg (P := P) ht w ⟨b, k, none⟩ ((List.range n).map us) (by simp) (fun j u hu => ?_)
      · simp [execOp, ho, hv, this]; rfl
      · rw [List.getElem?_map, Option.map_eq_some_iff] at hu
        obtain ⟨j', hj, rfl⟩ := hu
        obtain ⟨hj1, hj2⟩ := List.getElem?_eq_some_iff.1 hj
        simp at hj1 hj2; subst hj2
        rw [Addr.add_lit]
        exact h4 _ (by omega), .pv _ _ (.agg _ _ (by simp; omega) (fun y hy => h3 y (List.mem_of_mem_take hy)) (fun j y u hy hu => ?_))⟩
    have hj : j < n := by
      have := (List.getElem?_eq_some_iff.1 hy).1
      simp at this; omega
    simp [hj] at hu
    subst hu
    exact h5 j y (by rw [List.getElem?_take, if_pos hj] at hy; exact hy)

theorem op_load_lp {T : Nat} {x : Operand} {id k : Nat} {t : TypeId} {cells : List AV} {v : AV} (ho : o.op = .load T x) (hx : ev s x = some (.lp id k)) (hb : look id s.hp = some (.box t cells)) (hc : cells[k]? = some v) (ht : oneB P T = true) (hd : o.dst = d) (hn : dOk s d = true) :
    OpOk ro P c o s (s.put d (some v)) :=
  opOk_value hd hn (by rw [ho]; intro k h; cases h) fun a w O θ hs => by
    have h := ev_ok hs hx
    generalize hv : a.eval x = u at h
    cases h with
    | lp _ _ g h =>
      obtain ⟨v', hv', ⟨g', us, he, h1, h2, h3⟩, _⟩ := hs.hp id _ hb
      rw [h] at hv'; cases hv'
      cases he
      have hk : k < us.size := by rw [h2]; exact (List.getElem?_eq_some_iff.1 hc).1
      have hu : us[k]? = some us[k] := by simp [hk]
      refine ⟨us[k], by simp [execOp, ho, hv, run_loadAt_one ht w ⟨g, k, none⟩ us[k] (by rw [cell_of_row w g k us t (0, 0) h1]; exact hu)], (h3 k v _ hc hu).1⟩

/-- All of them hold nothing of the call's own memory. -/
def pvs : List AV → Option (List PV)
  | [] => some []
  | .pv p :: l => match pvs l with
    | some ps => some (p :: ps)
    | none => none
  | _ :: _ => none
theorem pvs_spec : ∀ {l : List AV} {ps : List PV}, pvs l = some ps → l = ps.map .pv
  | [], ps, h => by simp [pvs] at h; subst h; rfl
  | .pv p :: l, ps, h => by
    simp only [pvs] at h
    split at h
    · rename_i qs hq; cases h; rw [pvs_spec hq]; rfl
    · cases h
  | .ls _ :: _, _, h | .le _ _ _ _ :: _, _, h | .lp _ _ :: _, _, h | .cs _ _ :: _, _, h | .ra _ _ :: _, _, h | .fn _ _ :: _, _, h | .tup _ :: _, _, h => by simp [pvs] at h

theorem rda_pv {w : World} {O : Nat → Prop} {θ : Nat → Option Value} {p : PV} {u : Value} (h : RdA w O θ (.pv p) u) : Rd w O p u := by cases h with | pv _ _ h => exact h

theorem op_load_lp_agg {T n : Nat} {x : Operand} {id k : Nat} {t : TypeId} {cells : List AV} {ps : List PV} (ho : o.op = .load T x) (hx : ev s x = some (.lp id k)) (hb : look id s.hp = some (.box t cells))
    (hc : pvs ((cells.drop k).take n) = some ps) (hl : ps.length = n) (h1c : (ps.all PV.one) = true) (ht : aggB P T n = true) (hd : o.dst = d) (hn : dOk s d = true) :
    OpOk ro P c o s (s.put d (some (.pv (.agg ps)))) :=
  opOk_value hd hn (by rw [ho]; intro k h; cases h) fun a w O θ hs => by
    have h := ev_ok hs hx
    generalize hv : a.eval x = u at h
    cases h with
    | lp _ _ g h =>
      obtain ⟨v', hv', ⟨g', us, he, h1, h2, h3⟩, _⟩ := hs.hp id _ hb
      rw [h] at hv'; cases hv'
      cases he
      have hc' := pvs_spec hc
      have hps : ∀ j p, ps[j]? = some p → j < n ∧ cells[k + j]? = some (.pv p) := by
        intro j p hj
        have hjn : j < n := by have := (List.getElem?_eq_some_iff.1 hj).1; omega
        refine ⟨hjn, ?_⟩
        have : ((cells.drop k).take n)[j]? = some (.pv p) := by rw [hc', List.getElem?_map, hj]; rfl
        rw [List.getElem?_take, if_pos hjn, List.getElem?_drop] at this
        exact this
      have hlen : k + n ≤ us.size ∨ n = 0 := by
        rcases Nat.eq_zero_or_pos n with h0 | h0
        · exact .inr h0
        · left
          obtain ⟨p, hp⟩ : ∃ p, ps[n - 1]? = some p := ⟨ps[n - 1]'(by omega), List.getElem?_eq_getElem (by omega)⟩
          have := (List.getElem?_eq_some_iff.1 (hps _ p hp).2).1
          omega
      refine ⟨.agg ((us.toList.drop k).take n).toArray, ?_, .pv _ _ (.agg _ _ ?_ (by simpa using h1c) ?_)⟩
      · have := run_loadAt_agg (P := P) ht w ⟨g, k, none⟩ ((us.toList.drop k).take n) (by simp; omega) (fun j u hu => ?_)
        · simp [execOp, ho, hv, this]
        · rw [List.getElem?_take] at hu
          split at hu
          · rw [List.getElem?_drop] at hu
            rw [Addr.add_lit, cell_of_row w g _ us t (0, 0) h1]
            simpa using hu
          · cases hu
      · simp; omega
      · intro j p u hp hu
        obtain ⟨hjn, hcj⟩ := hps j p hp
        have hu' : us[k + j]? = some u := by
          simp only [List.getElem?_toArray, List.getElem?_take, if_pos hjn, List.getElem?_drop] at hu
          simpa using hu
        exact rda_pv (h3 (k + j) _ u hcj hu').1

theorem op_load_le {T : Nat} {x : Operand} {id sz i k : Nat} {e : TypeId} {rows : List (List PV)} {row : List PV} {p : PV} (ho : o.op = .load T x) (hx : ev s x = some (.le id sz i k)) (hb : look id s.hp = some (.row e sz rows))
    (hr : rows[i]? = some row) (hp : row[k]? = some p) (ht : oneB P T = true) (hd : o.dst = d) (hn : dOk s d = true) : OpOk ro P c o s (s.put d (some (.pv p))) :=
  opOk_value hd hn (by rw [ho]; intro k h; cases h) fun a w O θ hs => by
    have h := ev_ok hs hx
    generalize hv : a.eval x = u at h
    cases h with
    | le _ _ _ _ g n cap h =>
      obtain ⟨v', hv', ⟨us, hown, hrd⟩, _⟩ := hs.hp id _ hb
      rw [h] at hv'; cases hv'
      have hi : i < rows.length := (List.getElem?_eq_some_iff.1 hr).1
      have hk : k < sz := by have := (List.getElem?_eq_some_iff.1 hp).1; rw [hrd.hz row (List.mem_of_getElem? hr)] at this; exact this
      have hlt : i * sz + k < us.length := by rw [hrd.len]; exact index_lt hi hk
      have hu : us[i * sz + k]? = some us[i * sz + k] := List.getElem?_eq_getElem hlt
      have hcell := hown.cells (g := g) rfl (i * sz + k) _ hu
      rw [Addr.add_lit, Nat.zero_add] at hcell
      exact ⟨_, by simp [execOp, ho, hv, run_loadAt_one ht w _ _ hcell], .pv _ _ (hrd.rd i k row p _ hr hp hu)⟩

theorem op_load_le_agg {T n : Nat} {x : Operand} {id sz i k : Nat} {e : TypeId} {rows : List (List PV)} {row ps : List PV} (ho : o.op = .load T x) (hx : ev s x = some (.le id sz i k)) (hb : look id s.hp = some (.row e sz rows))
    (hr : rows[i]? = some row) (hp : (row.drop k).take n = ps) (hl : ps.length = n) (ht : aggB P T n = true) (hd : o.dst = d) (hn : dOk s d = true) : OpOk ro P c o s (s.put d (some (.pv (.agg ps)))) :=
  opOk_value hd hn (by rw [ho]; intro k h; cases h) fun a w O θ hs => by
    have h := ev_ok hs hx
    generalize hv : a.eval x = u at h
    cases h with
    | le _ _ _ _ g m cap h =>
      obtain ⟨v', hv', ⟨us, hown, hrd⟩, _⟩ := hs.hp id _ hb
      rw [h] at hv'; cases hv'
      have hi : i < rows.length := (List.getElem?_eq_some_iff.1 hr).1
      have hrl : row.length = sz := hrd.hz row (List.mem_of_getElem? hr)
      subst hp
      simp only [List.length_take, List.length_drop] at hl
      have hus : ∀ j, j < n → i * sz + k + j < us.length := by
        intro j hj
        rw [hrd.len, Nat.add_assoc]
        exact index_lt hi (by omega)
      refine ⟨.agg ((us.drop (i * sz + k)).take n).toArray, ?_, .pv _ _ (.agg _ _ ?_ (fun y hy => hrd.one row (List.mem_of_getElem? hr) y (List.mem_of_mem_drop (List.mem_of_mem_take hy))) ?_)⟩
      · have := run_loadAt_agg (P := P) ht w ⟨g, i * sz + k, none⟩ ((us.drop (i * sz + k)).take n) (by
          simp only [List.length_take, List.length_drop]
          rcases Nat.eq_zero_or_pos n with h0 | h0
          · omega
          · have := hus (n - 1) (by omega); omega) (fun j u hu => ?_)
        · simp [execOp, ho, hv, this]
        · rw [List.getElem?_take] at hu
          split at hu
          · rw [List.getElem?_drop] at hu
            have := hown.cells (g := g) rfl _ _ hu
            rw [Addr.add_lit, Nat.zero_add] at this
            rw [Addr.add_lit]; exact this
          · cases hu
      · simp only [List.size_toArray, List.length_take, List.length_drop]
        rcases Nat.eq_zero_or_pos n with h0 | h0
        · omega
        · have := hus (n - 1) (by omega); omega
      · intro j p u hp hu
        have hjn : j < n := by have := (List.getElem?_eq_some_iff.1 hp).1; simp at this; omega
        simp only [List.getElem?_toArray, List.getElem?_take, if_pos hjn, List.getElem?_drop] at hu hp
        exact hrd.rd i (k + j) row p u hr hp (by rw [← Nat.add_assoc]; exact hu)
end
end Go.Abs
