/- The abstract layer that the proof stands on: no condition. -/
import Derived.Test.YtkfgkkbfipgklaaAbsF
namespace Go.Abs
open Go.RowKit

/-- The places of a struct's fields, or of an array's elements: offset and size. -/
def placesB (P : Program) (T : Nat) (l : List (Nat × Nat)) : Bool :=
  match P.underlying T with
  | some (.struct fs) => (fs.toList.map fun f => (f.offset, match P.info? f.type with | some i => i.size | none => 0)) == l && fs.toList.all fun f => (P.info? f.type).isSome
  | _ => false

/-- The cells with the parts laid over them. -/
def fillPV (place : List (Nat × Nat)) (cells : List PV) : List (Nat × AV) → Option (List PV)
  | [] => some cells
  | (i, v) :: rest =>
    match place[i]?, pvs v.cells with
    | some (off, size), some ps => bif Nat.beq ps.length size && Nat.ble (off + ps.length) cells.length then fillPV place (splice cells off ps) rest else none
    | _, _ => none

theorem foldl_splice (us : Array Value) (off : Nat) : ∀ (cells : Array Value), off + us.size ≤ cells.size →
    (us.zipIdx.foldl (fun cs (c, j) => cs.setIfInBounds (off + j) c) cells).toList = splice cells.toList off us.toList := by
  obtain ⟨l⟩ := us
  intro cells
  rw [← Array.foldl_toList, Array.toList_zipIdx]
  have key : ∀ (l : List Value) (k : Nat) (cells : Array Value), off + k + l.length ≤ cells.size →
      ((l.zipIdx k).foldl (fun cs (c, j) => cs.setIfInBounds (off + j) c) cells).toList = splice cells.toList (off + k) l := by
    intro l
    induction l with
    | nil => intro k cells h; simp [splice]
    | cons x l ih =>
      intro k cells h
      simp only [List.zipIdx_cons, List.foldl_cons]
      simp only [List.length_cons] at h
      rw [ih (k + 1) _ (by simp; omega)]
      apply List.ext_getElem?
      intro j
      rw [splice_get _ _ _ (by simp; omega), splice_get _ _ _ (by simp; omega)]
      simp only [Array.toList_setIfInBounds, List.length_cons, List.getElem?_set]
      by_cases h1 : j = off + k
      · subst h1
        rw [if_neg (by omega), if_pos rfl, if_pos (by simpa using (by omega : off + k < cells.size)), if_pos ⟨by omega, by omega⟩]
        simp
      · rw [if_neg (show ¬ off + k = j from fun e => h1 e.symm)]
        by_cases h2 : off + (k + 1) ≤ j ∧ j < off + (k + 1) + l.length
        · rw [if_pos h2, if_pos ⟨by omega, by omega⟩, show j - (off + k) = (j - (off + (k + 1))) + 1 by omega, List.getElem?_cons_succ]
        · rw [if_neg h2, if_neg (by omega)]
  intro h
  simpa using key l 0 cells (by simpa using h)

section
variable {ro : Option Nat} {P : Program} {c : Cx} {s s' : St} {o : Oper} {d : Option Nat}

/-- What the parts are. -/
def evs (s : St) : List (Nat × Operand) → Option (List (Nat × AV))
  | [] => some []
  | (i, x) :: l => match ev s x, evs s l with
    | some v, some vs => some ((i, v) :: vs)
    | _, _ => none

/-- Cells that read as `ps`, each of one cell. -/
def Reads1 (w : World) (O : Nat → Prop) (us : List Value) (ps : List PV) : Prop :=
  us.length = ps.length ∧ (∀ p ∈ ps, p.one = true) ∧ ∀ (j : Nat) (p : PV) (u : Value), ps[j]? = some p → us[j]? = some u → Rd w O p u

theorem Reads1.splice_ {w : World} {O : Nat → Prop} {us vs : List Value} {ps qs : List PV} {k : Nat} (h : Reads1 w O us ps) (h' : Reads1 w O vs qs) (hk : k + qs.length ≤ ps.length) : Reads1 w O (splice us k vs) (splice ps k qs) := by
  have hk' : k + vs.length ≤ us.length := by rw [h'.1, h.1]; exact hk
  refine ⟨by rw [splice_length _ _ _ hk', splice_length _ _ _ hk]; exact h.1, ?_, ?_⟩
  · intro p hp
    obtain ⟨j, hj⟩ := List.getElem?_of_mem hp
    rw [splice_get _ _ _ hk] at hj
    split at hj
    · exact h'.2.1 p (List.mem_of_getElem? hj)
    · exact h.2.1 p (List.mem_of_getElem? hj)
  · intro j p u hp hu
    rw [splice_get _ _ _ hk] at hp
    rw [splice_get _ _ _ hk', h'.1] at hu
    split at hp
    · rename_i hj; rw [if_pos hj] at hu; exact h'.2.2 _ p u hp hu
    · rename_i hj; rw [if_neg hj] at hu; exact h.2.2 _ p u hp hu

theorem reads1_of_cells {w : World} {O : Nat → Prop} {θ : Nat → Option Value} {x : AV} {v : Value} {ps : List PV} (h : RdA w O θ x v) (hp : pvs x.cells = some ps) (hθ : ∀ id u, θ id = some u → u.oneCell' = true) : Reads1 w O v.cells.toList ps := by
  have hcel : x.cellish = true := by cases x <;> first | rfl | simp [AV.cells, pvs] at hp
  obtain ⟨c1, c2, c3⟩ := AV.cells_ok h hcel hθ
  have hx := pvs_spec hp
  have hl : v.cells.size = ps.length := by rw [c1, hx]; simp
  have rd : ∀ (j : Nat) (p : PV) (u : Value), ps[j]? = some p → v.cells.toList[j]? = some u → Rd w O p u := fun j p u hj hu =>
    rda_pv (c3 j (.pv p) u (by rw [hx, List.getElem?_map, hj]; rfl) (by simpa using hu))
  refine ⟨by simpa using hl, fun p hp => ?_, rd⟩
  obtain ⟨j, hj⟩ := List.getElem?_of_mem hp
  have hlt : j < v.cells.toList.length := by have := (List.getElem?_eq_some_iff.1 hj).1; simp; omega
  have h4 := rd j p _ hj (List.getElem?_eq_getElem hlt)
  have h5 := c2 _ (List.getElem_mem hlt)
  generalize v.cells.toList[j] = u at h4 h5
  cases h4 <;> first | rfl | simp [Value.oneCell'] at h5

theorem czs_reads1 {w : World} {O : Nat → Prop} {vs : List Value} {ps : List PV} (h : czs vs ps) : Reads1 w O vs ps := by
  obtain ⟨h1, h2⟩ := czs_spec h
  refine ⟨h1, fun p hp => ?_, fun j p u hp hu => cz_ok (h2 j p u hp hu)⟩
  obtain ⟨j, hj⟩ := List.getElem?_of_mem hp
  have hlt : j < vs.length := by have := (List.getElem?_eq_some_iff.1 hj).1; omega
  exact (cz_one (h2 j p _ hj (List.getElem?_eq_getElem hlt))).1

theorem rd_of_reads1 {w : World} {O : Nat → Prop} {us : List Value} {ps : List PV} (h : Reads1 w O us ps) : Rd w O (.agg ps) (.agg us.toArray) :=
  .agg _ _ (by simpa using h.1) h.2.1 (fun j p u hp hu => h.2.2 j p u hp (by simpa using hu))

theorem fill_ok {place : List (Nat × Nat)} {pf : Nat → Option (Nat × Nat)} (hpf : ∀ i p, place[i]? = some p → pf i = some p) {O : Nat → Prop} {θ : Nat → Option Value} {a : Act} {w : World} (hs : SimAt c s O θ a w) : ∀ (parts : List (Nat × Operand)) (xs : List (Nat × AV)) (cells : List PV) (us : Array Value) (r : List PV),
    evs s parts = some xs → fillPV place cells xs = some r → Reads1 w O us.toList cells →
    ∃ us', Instr.fill pf us (parts.map fun (i, x) => (i, a.eval x)) = some us' ∧ Reads1 w O us'.toList r
  | [], xs, cells, us, r, h1, h2, h3 => by
    simp [evs] at h1; subst h1
    simp [fillPV] at h2; subst h2
    exact ⟨us, rfl, h3⟩
  | (i, x) :: parts, xs, cells, us, r, h1, h2, h3 => by
    simp only [evs] at h1
    split at h1
    · rename_i v vs hv hvs
      cases h1
      simp only [fillPV] at h2
      split at h2
      · rename_i off size ps hpl hps
        simp only [cond_eq_ite] at h2
        split at h2
        · rename_i hc
          simp only [Bool.and_eq_true] at hc
          have hc1 : ps.length = size := Nat.eq_of_beq_eq_true hc.1
          have hc2 : off + ps.length ≤ cells.length := Nat.le_of_ble_eq_true hc.2
          have hr1 := reads1_of_cells (ev_ok hs hv) hps hs.one
          have hsz : (a.eval x).cells.size = size := by have := hr1.1; simp at this; omega
          have hus : us.size = cells.length := by have := h3.1; simpa using this
          have hsp := foldl_splice (a.eval x).cells off us (by have := hr1.1; simp at this; omega)
          obtain ⟨us', e1, e2⟩ := fill_ok hpf hs parts vs _ ((a.eval x).cells.zipIdx.foldl (fun cs (c, j) => cs.setIfInBounds (off + j) c) us) r hvs h2 (by rw [hsp]; exact h3.splice_ hr1 hc2)
          refine ⟨us', ?_, e2⟩
          simp only [List.map_cons, Instr.fill, hpf _ _ hpl]
          rw [if_neg (by simp [hsz]; have := hr1.1; simp at this; omega)]
          exact e1
        · cases h2
      · cases h2
    · cases h1

theorem placesB_spec {T : Nat} {l : List (Nat × Nat)} (h : placesB P T l = true) : ∃ fs, P.underlying T = some (.struct fs) ∧
    ∀ w, (fs.mapM fun f => (do pure (f.offset, ← sizeOf f.type) : Sem (Nat × Nat))).run P w = .ok l.toArray w := by
  unfold placesB at h
  split at h
  · rename_i fs hu
    simp only [Bool.and_eq_true, beq_iff_eq, List.all_eq_true] at h
    obtain ⟨h1, h2⟩ := h
    refine ⟨fs, hu, fun w => ?_⟩
    subst h1
    obtain ⟨fs⟩ := fs
    simp only [List.mapM_toArray]
    simp only at h2
    have : ∀ fs : List Field, (∀ f ∈ fs, (P.info? f.type).isSome = true) → (fs.mapM fun f => (do pure (f.offset, ← sizeOf f.type) : Sem (Nat × Nat))).run P w = .ok (fs.map fun f => (f.offset, match P.info? f.type with | some i => i.size | none => 0)) w := by
      intro fs
      induction fs with
      | nil => intro _; simp
      | cons f fs ih =>
        intro hf
        have h3 := hf f (by simp)
        cases hi : P.info? f.type with
        | none => rw [hi] at h3; cases h3
        | some i =>
          simp only [List.mapM_cons, Sem.run_bind, sizeOf, typeInfo, run_program, Result.andThen_ok, hi, Sem.run_pure, List.map_cons]
          have := ih (fun f hf' => hf f (by simp [hf']))
          simp only [Sem.run_bind, sizeOf, typeInfo, run_program, Result.andThen_ok, Sem.run_pure] at this
          rw [this]
          simp [Result.andThen]
    simp only [Sem.run_map, this fs h2]
    rfl
  · cases h

theorem op_build {T : Nat} {parts : List (Nat × Operand)} {place : List (Nat × Nat)} {z : Value} {zs r : List PV} {xs : List (Nat × AV)} (ho : o.op = .build T parts.toArray) (hz : zeroIs P T z) (hzs : czs z.cells.toList zs) (hpl : placesB P T place = true)
    (hx : evs s parts = some xs) (hr : fillPV place zs xs = some r) (hd : o.dst = d) (hn : dOk s d = true) : OpOk ro P c o s (s.put d (some (.pv (.agg r)))) :=
  opOk_value hd hn (by rw [ho]; intro k h; cases h) fun a w O θ hs => by
    obtain ⟨fs, hu, hfs⟩ := placesB_spec hpl
    obtain ⟨us', h1, h2⟩ := fill_ok (place := place) (pf := (place[·]?)) (fun _ _ h => h) hs parts xs zs z.cells r hx hr (czs_reads1 hzs)
    refine ⟨.agg us', ?_, .pv _ _ (by have := rd_of_reads1 h2; simpa using this)⟩
    have hfs' := hfs w
    simp only [bind_pure_comp] at hfs'
    simp [execOp, ho, Instr.build, (zeroIs_spec hz w).1, run_underlying hu, hfs', h1]
end
end Go.Abs
