/- The abstract layer that the proof stands on: no condition. -/
import Derived.Test.YtkfgkkbfipgklaaAbsG
import Derived.Maps.AppendAt
namespace Go.Abs
open Go.RowKit

theorem flatten_get {α : Type} {sz : Nat} : ∀ {rows : List (List α)}, (∀ row ∈ rows, row.length = sz) → ∀ (i j : Nat) (row : List α), rows[i]? = some row → j < sz → rows.flatten[i * sz + j]? = row[j]?
  | [], _, i, j, row, h, _ => by simp at h
  | r :: rows, hz, 0, j, row, h, hj => by
    simp at h; subst h
    have := hz r (by simp)
    simp only [Nat.zero_mul, Nat.zero_add, List.flatten_cons]
    rw [List.getElem?_append_left (by omega)]
  | r :: rows, hz, i + 1, j, row, h, hj => by
    have h1 := hz r (by simp)
    simp only [List.getElem?_cons_succ] at h
    simp only [List.flatten_cons]
    rw [List.getElem?_append_right (by rw [Nat.add_mul]; omega), ← flatten_get (fun row hr => hz row (by simp [hr])) i j row h hj]
    congr 1
    rw [Nat.add_mul]; omega
theorem flatten_len {α : Type} {sz : Nat} : ∀ {rows : List (List α)}, (∀ row ∈ rows, row.length = sz) → rows.flatten.length = rows.length * sz
  | [], _ => by simp
  | r :: rows, h => by
    simp only [List.flatten_cons, List.length_append, List.length_cons, Nat.add_mul]
    rw [flatten_len (fun row hr => h row (by simp [hr])), h r (by simp)]
    omega

theorem rowsRd_of_flatten {w : World} {O : Nat → Prop} {sz : Nat} {rows : List (List PV)} {us : List Value} (h : Reads1 w O us rows.flatten) (hz : ∀ row ∈ rows, row.length = sz) : RowsRd w O sz rows us := by
  refine ⟨by rw [h.1, flatten_len hz], hz, fun row hr x hx => h.2.1 x (List.mem_flatten.2 ⟨row, hr, hx⟩), fun i j row x u h1 h2 h3 => ?_⟩
  have hj : j < sz := by have := (List.getElem?_eq_some_iff.1 h2).1; rw [hz row (List.mem_of_getElem? h1)] at this; exact this
  exact h.2.2 _ x u (by rw [flatten_get hz i j row h1 hj]; exact h2) h3

theorem RowsRd.append {w : World} {O : Nat → Prop} {sz : Nat} {rows rows' : List (List PV)} {us us' : List Value} (h : RowsRd w O sz rows us) (h' : RowsRd w O sz rows' us') : RowsRd w O sz (rows ++ rows') (us ++ us') := by
  refine ⟨by simp [h.len, h'.len, Nat.add_mul], ?_, ?_, ?_⟩
  · intro row hr; rcases List.mem_append.1 hr with h1 | h1
    · exact h.hz row h1
    · exact h'.hz row h1
  · intro row hr; rcases List.mem_append.1 hr with h1 | h1
    · exact h.one row h1
    · exact h'.one row h1
  · intro i j row x u h1 h2 h3
    rw [List.getElem?_append] at h1
    split at h1
    · rename_i hi
      have hj : j < sz := by have := (List.getElem?_eq_some_iff.1 h2).1; rw [h.hz row (List.mem_of_getElem? h1)] at this; exact this
      rw [List.getElem?_append_left (by rw [h.len]; exact index_lt hi hj)] at h3
      exact h.rd i j row x u h1 h2 h3
    · rename_i hi
      have e : i * sz = (i - rows.length) * sz + rows.length * sz := by rw [← Nat.add_mul]; congr 1; omega
      rw [List.getElem?_append_right (by rw [h.len]; omega)] at h3
      refine h'.rd (i - rows.length) j row x u h1 h2 ?_
      rw [← h3, h.len]; congr 1; omega

theorem rd_vs_of_rows {w : World} {O : Nat → Prop} {sz : Nat} {rows : List (List PV)} {us : List Value} (h : RowsRd w O sz rows us) {g cap : Nat} {cur : Array Value} {e : TypeId} {f : Nat × Nat} (hg : w.heap[g]? = some (.cells cur e f))
    (ht : cur.toList.take (rows.length * sz) = us) (hO : ¬ O g) (hc : rows.length ≤ cap) (hm : cap ≤ maxLen) : Rd w O (.vs sz rows) (.slice (some ⟨g, 0, none⟩) rows.length cap) := by
  have hlt : g < w.heap.size := by
    rcases Nat.lt_or_ge g w.heap.size with h1 | h1
    · exact h1
    · rw [Array.getElem?_eq_none h1] at hg; cases hg
  refine .vs sz rows g 0 cap (fun k => us.getD k undef) hO hlt hc hm h.hz h.one (fun k hk => ?_) (fun i j row x h1 h2 => ?_)
  · have hk' : k < us.length := by rw [h.len]; exact hk
    rw [Nat.zero_add, cell_of_row w g k cur e f hg]
    have : us[k]? = some us[k] := List.getElem?_eq_getElem hk'
    simp only [List.getD, this, Option.getD_some]
    have h2 : (cur.toList.take (rows.length * sz))[k]? = some us[k] := by rw [ht]; exact this
    rw [List.getElem?_take, if_pos hk] at h2
    simpa using h2
  · have hi : i < rows.length := (List.getElem?_eq_some_iff.1 h1).1
    have hj : j < sz := by have := (List.getElem?_eq_some_iff.1 h2).1; rw [h.hz row (List.mem_of_getElem? h1)] at this; exact this
    have hk' : i * sz + j < us.length := by rw [h.len]; exact index_lt hi hj
    have : us[i * sz + j]? = some us[i * sz + j] := List.getElem?_eq_getElem hk'
    simp only [List.getD, this, Option.getD_some]
    exact h.rd i j row x _ h1 h2 this

/-- The cells of a slice that reads as rows. -/
theorem rows_of_vs {w : World} {O : Nat → Prop} {sz : Nat} {rows : List (List PV)} {b off cap : Nat} {us : Nat → Value} (h : ¬ O b ∧ b < w.heap.size ∧ rows.length ≤ cap ∧ cap ≤ maxLen ∧
    (∀ row ∈ rows, row.length = sz) ∧ (∀ row ∈ rows, ∀ x ∈ row, x.one = true) ∧ (∀ k, k < rows.length * sz → w.cell? ⟨b, off + k, none⟩ = some (us k)) ∧
    ∀ (i j : Nat) (row : List PV) (x : PV), rows[i]? = some row → row[j]? = some x → Rd w O x (us (i * sz + j))) :
    ∃ us : List Value, RowsRd w O sz rows us ∧ (∀ k u, us[k]? = some u → w.cell? ⟨b, off + k, none⟩ = some u) ∧ ¬ O b ∧ b < w.heap.size := by
  obtain ⟨h1, h2, h3, h4, h5, h6, h7, h8⟩ := h
  have key : ∃ us : List Value, RowsRd w O sz rows us ∧ (∀ k u, us[k]? = some u → w.cell? ⟨b, off + k, none⟩ = some u) ∧ ¬ O b ∧ b < w.heap.size := by
    refine ⟨(List.range (rows.length * sz)).map us, ⟨by simp, h5, h6, fun i j row x u hi hj hu => ?_⟩, fun k u hu => ?_, h1, h2⟩
    · rw [List.getElem?_map, Option.map_eq_some_iff] at hu
      obtain ⟨k, hk, rfl⟩ := hu
      obtain ⟨hk1, hk2⟩ := List.getElem?_eq_some_iff.1 hk
      simp at hk2; subst hk2
      exact h8 i j row x hi hj
    · rw [List.getElem?_map, Option.map_eq_some_iff] at hu
      obtain ⟨k', hk, rfl⟩ := hu
      obtain ⟨hk1, hk2⟩ := List.getElem?_eq_some_iff.1 hk
      simp at hk1 hk2; subst hk2
      exact h7 k (by omega)
  exact key

def elemB (P : Program) (e bytes : Nat) : Bool := match P.info? e with | some i => i.bytes == bytes | none => false

section
variable {ro : Option Nat} {P : Program} {c : Cx} {s s' : St} {o : Oper} {d : Option Nat}

theorem run_append_nil_src (w : World) (t ty e : TypeId) (i : TypeInfo) (size : Nat) (ht : P.underlying t = some (.slice e)) (hi : P.info? e = some i)
    (v : Value) (n : Nat) (xs : List Value) (hown : ownsW w e size v n xs) (c : Nat) : (Builtin.append_ #[t, t] ty #[v, .slice none 0 c]).run P w = .ok v w := by
  rcases hown.2 with ⟨rfl, rfl⟩ | ⟨g, cap, cur, rfl, _, _, hnc, _⟩
  · simp [Builtin.append_, run_underlying ht, sizeOf, typeInfo, hi, Builtin.lenOf, Builtin.firstCells]
  · simp [Builtin.append_, run_underlying ht, sizeOf, typeInfo, hi, Builtin.lenOf, Builtin.firstCells, hnc, storeCells]

theorem run_append_w {w : World} {T e sz bytes : Nat} {ty : TypeId} {i : TypeInfo} {z : Value} (h1 : P.underlying T = some (.slice e)) (h2 : P.info? e = some i) (hz : i.zero = some z) (h3 : i.size = sz) (hb2 : i.bytes = bytes) (hzl : z.cells.size = sz)
    {u : Value} {n : Nat} {us : List Value} (hown : ownsW w e sz u n us) (ad : Addr) (m c : Nat) (vs : List Value) (hl : vs.length = m * sz) (hc : ∀ j v, vs[j]? = some v → w.cell? (ad.add j) = some v) (h1c : ∀ x ∈ vs, x.oneCell' = true)
    (hsum : n + m ≤ maxLen) (hroom : (n + m) * bytes ≤ 140737488355328) :
    ∃ v' w', (Builtin.append_ #[T, T] ty #[u, .slice (some ad) m c]).run P w = .ok v' w' ∧ ownsW w' e sz v' (n + m) (us ++ vs) ∧ w.grownBy w' (blkOf u) ∧ (blkOf v' = blkOf u ∨ blkOf v' = some w.heap.size) := by
  have hsm : n + m ≤ 9223372036854775807 := by simp only [maxLen] at hsum; omega
  have zs : ∀ k, (Builtin.zeroCells z.cells k).size = k * sz := fun k => by simp [Builtin.zeroCells, hzl]
  have hlen : (us ++ vs).length = (n + m) * sz := by rw [List.length_append, hown.1, hl, Nat.add_mul]
  have made : ∀ old : Nat, (row : Option Nat) → ownsW (w.drew.alloc (.cells (us.toArray ++ vs.toArray ++ Builtin.zeroCells z.cells (grownCap w (n + m) old e - (n + m))) e)) e sz (.slice (some ⟨w.heap.size, 0, none⟩) (n + m) (grownCap w (n + m) old e)) (n + m) (us ++ vs) ∧
      w.grownBy (w.drew.alloc (.cells (us.toArray ++ vs.toArray ++ Builtin.zeroCells z.cells (grownCap w (n + m) old e - (n + m))) e)) row := by
    intro old row
    have hge := grownCap_ge w (n + m) old e
    refine ⟨⟨hlen, .inr ⟨w.heap.size, _, _, rfl, trivial, heap_alloc_new w.drew _, hge, grownCap_le_maxLen w (n + m) old e hsum, ?_, ?_⟩⟩, ⟨rfl, rfl, rfl, by simp, fun k hk _ => heap_alloc_old w.drew _ k hk⟩⟩
    · simp only [Array.size_append, List.size_toArray, zs, hown.1, hl, ← Nat.add_mul]
      exact Nat.mul_le_mul_right _ (by omega)
    · simp only [Array.toList_append]
      rw [← hlen]
      exact List.take_left
  rcases hown.2 with ⟨rfl, rfl⟩ | ⟨g, cap, cur, rfl, _, hg, hnc, hcm, hcs, ht⟩
  · obtain rfl : us = [] := List.eq_nil_of_length_eq_zero (by simpa using hown.1)
    rcases Nat.eq_zero_or_pos m with hm | hm
    · subst hm
      obtain rfl : vs = [] := List.eq_nil_of_length_eq_zero (by simpa using hl)
      exact ⟨.slice none 0 0, w, by simp [Builtin.append_, run_underlying h1, sizeOf, typeInfo, h2, Builtin.lenOf, Builtin.firstCells, loadCells, loadCellsFrom], ownsW_nil w e sz, World.grownBy.refl w _, .inl rfl⟩
    · have hr := run_append_nil (P := P) w T ty e i z h1 h2 hz ad m c vs (by rw [h3]; exact hl) hc hm (by omega) (by rw [hb2]; simp only [Nat.zero_add] at hroom; omega)
      obtain ⟨k1, k2⟩ := made 0 (blkOf (.slice none 0 0))
      simp only [Nat.zero_add, List.nil_append, Array.empty_append] at k1 k2 ⊢
      exact ⟨_, _, hr, k1, k2, .inr rfl⟩
  · by_cases hfit : n + m ≤ cap
    · have hle : n * sz + m * sz ≤ cur.size := by
        rw [← Nat.add_mul]; exact Nat.le_trans (Nat.mul_le_mul_right _ hfit) hcs
      have hr := run_append_room (P := P) w T ty e i h1 h2 g n cap cur hg ad m c vs (by rw [h3]; exact hl) hc h1c hfit (by rw [h3, hl]; exact hle)
      rw [h3] at hr
      refine ⟨_, _, hr, ⟨hlen, .inr ⟨g, cap, _, rfl, trivial, setRow_heap w g cur _ e _ hg, hfit, hcm, ?_, ?_⟩⟩, ⟨rfl, rfl, rfl, by simp, fun k _ hk => setRow_other w g k _ (fun e => hk (by simp [blkOf, e]))⟩, .inl rfl⟩
      · simp only [List.size_toArray, List.length_append, List.length_take, List.length_drop, Array.length_toList, hl]
        omega
      · rw [ht, ← hlen]
        exact List.take_left
    · have hr := run_append_grow (P := P) w T ty e i z h1 h2 hz ⟨g, 0, none⟩ n cap us (by rw [h3]; exact hown.1) (hown.cells (g := g) rfl) ad m c vs (by rw [h3]; exact hl) hc (by omega) (by omega) (growslice_fits (by omega) (by rw [hb2]; exact hroom))
      obtain ⟨k1, k2⟩ := made cap (blkOf (.slice (some ⟨g, 0, none⟩) n cap))
      exact ⟨_, _, hr, k1, k2, .inr rfl⟩

theorem run_buildSlice {T e sz n : Nat} {parts : List (Nat × Operand)} {z : Value} {zs : List PV} {rows : List (List PV)} {xs : List (Nat × AV)} (ht : sliceB P T e sz = true) (hz : zeroIs P e z) (hzs : czs z.cells.toList zs)
    (hzl : zs.length = sz) (hsz : 0 < sz) (hlen : Nat.ble (n * sz) 16777216 = true) (hx : evs s parts = some xs) (hr : fillPV ((List.range n).map fun i => (i * sz, sz)) (List.replicate n zs).flatten xs = some rows.flatten) (hrow : ∀ row ∈ rows, row.length = sz)
    {O : Nat → Prop} {θ : Nat → Option Value} {a : Act} {w : World} (hs : SimAt c s O θ a w) :
    ∃ us : Array Value, (Instr.buildSlice T n (parts.map fun (i, x) => (i, a.eval x)).toArray).run P w = .ok (.slice (some ⟨w.heap.size, 0, none⟩) n n) (w.alloc (.cells us e)) ∧ RowsRd w O sz rows us.toList ∧ us.size = n * sz := by
  obtain ⟨i, h1, h2, h3⟩ := sliceB_spec ht
  have hzr := czs_reads1 (w := w) (O := O) hzs
  have hzc : z.cells.size = sz := by have := hzr.1; simp at this; omega
  have hlen' : n * sz ≤ 16777216 := Nat.le_of_ble_eq_true hlen
  have hrep : ∀ row ∈ List.replicate n zs, row.length = sz := fun row hr => by rw [List.eq_of_mem_replicate hr]; exact hzl
  have hfl : (List.replicate n zs).flatten.length = n * sz := by rw [flatten_len hrep]; simp
  have hinit : Reads1 w O (((Array.range (n * sz)).map (z.cells[· % z.cells.size]!))).toList (List.replicate n zs).flatten := by
    refine ⟨by simp [hfl], fun p hp => ?_, fun j p u hp hu => ?_⟩
    · obtain ⟨row, hr, hp⟩ := List.mem_flatten.1 hp
      rw [List.eq_of_mem_replicate hr] at hp
      exact hzr.2.1 p hp
    · have hj : j < n * sz := by have := (List.getElem?_eq_some_iff.1 hp).1; omega
      have hq : j / sz < n := Nat.div_lt_of_lt_mul (by rw [Nat.mul_comm]; exact hj)
      have hm : j % sz < sz := Nat.mod_lt _ hsz
      have e : j / sz * sz + j % sz = j := by rw [Nat.mul_comm]; exact Nat.div_add_mod j sz
      rw [← e, flatten_get hrep (j / sz) (j % sz) zs (by simp [hq]) hm] at hp
      simp only [Array.toList_map, List.getElem?_map, Array.toList_range, List.getElem?_range hj, Option.map_some, Option.some.injEq] at hu
      subst hu
      refine hzr.2.2 _ p _ hp ?_
      rw [hzc]
      have : j % sz < z.cells.size := by omega
      simp [this]
  obtain ⟨us', e1, e2⟩ := fill_ok (place := (List.range n).map fun i => (i * sz, sz)) (pf := fun i => some (i * sz, sz)) (fun i p hp => by
    rw [List.getElem?_map, Option.map_eq_some_iff] at hp
    obtain ⟨k, hk, rfl⟩ := hp
    obtain ⟨_, hk2⟩ := List.getElem?_eq_some_iff.1 hk
    simp at hk2; subst hk2; rfl) hs parts xs _ _ _ hx hr hinit
  have hrl := rowsRd_of_flatten e2 hrow
  have hus : us'.size = n * sz := by
    have h4 : rows.flatten.length = (List.replicate n zs).flatten.length := by
      have : ∀ (xs : List (Nat × AV)) (cells r : List PV), fillPV ((List.range n).map fun i => (i * sz, sz)) cells xs = some r → r.length = cells.length := by
        intro xs
        induction xs with
        | nil => intro cells r h; simp [fillPV] at h; rw [h]
        | cons x xs ih =>
          intro cells r h
          obtain ⟨i, v⟩ := x
          simp only [fillPV] at h
          split at h
          · simp only [cond_eq_ite] at h
            split at h
            · rename_i hc
              simp only [Bool.and_eq_true] at hc
              rw [ih _ _ h, splice_length _ _ _ (Nat.le_of_ble_eq_true hc.2)]
            · cases h
          · cases h
      exact this _ _ _ hr
    have := e2.1
    simp at this
    rw [this]
    rw [show (List.map List.length rows).sum = rows.flatten.length by simp, h4, hfl]
  refine ⟨us', ?_, hrl, hus⟩
  by_cases h0 : n * sz = 0
  · have hn0 : n = 0 := by rcases Nat.mul_eq_zero.1 h0 with h | h <;> omega
    subst hn0
    have hr0 : ∀ f : Nat → Value, (Array.range 0).map f = #[] := fun f => by simp
    have e1' : Instr.fill (fun i => some (i * sz, sz)) #[] (parts.map fun (i, x) => (i, a.eval x)) = some us' := by
      rw [← e1, Nat.zero_mul, hr0]
    simp only [Instr.buildSlice, run_underlying h1, sizeOf, typeInfo, h2, h3, Sem.run_bind, Result.andThen_ok, run_program, Sem.run_pure, Nat.zero_mul, hr0, e1']
    simp [newRow, newObj, Sem.run]
  · simp [Instr.buildSlice, run_underlying h1, sizeOf, typeInfo, h2, h3, h0, (zeroIs_spec hz w).1, e1, newRow, newObj, Sem.run, Nat.not_lt.2 hlen']

/-- A slice literal that nobody writes to. -/
theorem op_lit {T e sz n : Nat} {parts : List (Nat × Operand)} {z : Value} {zs : List PV} {rows : List (List PV)} {xs : List (Nat × AV)} (ho : o.op = .buildSlice T n parts.toArray) (hrn : rows.length = n) (ht : sliceB P T e sz = true) (hz : zeroIs P e z) (hzs : czs z.cells.toList zs)
    (hzl : zs.length = sz) (hsz : Nat.blt 0 sz = true) (hlen : Nat.ble (n * sz) 16777216 = true) (hx : evs s parts = some xs) (hr : fillPV ((List.range n).map fun i => (i * sz, sz)) (List.replicate n zs).flatten xs = some rows.flatten) (hrow : (rows.all fun row => Nat.beq row.length sz) = true)
    (hd : o.dst = d) (hn : dOk s d = true) : OpOk ro P c o s (s.put d (some (.pv (.vs sz rows)))) :=
  opOk_mem (s1 := s) hd hn (by rw [ho]; intro k h; cases h) fun a w O θ hs => by
    subst hrn
    have hrow' : ∀ row ∈ rows, row.length = sz := fun row h => Nat.eq_of_beq_eq_true (List.all_eq_true.1 hrow row h)
    have hsz' : 0 < sz := by simpa [Nat.blt_eq] using hsz
    obtain ⟨us, h1, h2, h3⟩ := run_buildSlice ht hz hzs hzl hsz' hlen hx hr hrow' hs
    have hg := alloc_grown w (.cells us e)
    have hO : ∀ b, b < w.heap.size → ¬ O b → ¬ O b ∧ (w.alloc (.cells us e)).heap[b]? = w.heap[b]? := fun b hb hn => ⟨hn, hg.block b hb (by simp)⟩
    have hnO : ¬ O w.heap.size := fun h => by have := hs.olt _ h; omega
    have hbig : rows.length ≤ maxLen := by
      have h5 : rows.length * sz ≤ 16777216 := Nat.le_of_ble_eq_true hlen
      have : rows.length ≤ rows.length * sz := Nat.le_mul_of_pos_right _ hsz'
      unfold maxLen; omega
    refine ⟨_, _, O, θ, by simp only [execOp, ho, List.map_toArray, h1, Sem.run_bind, Sem.run_pure, Result.andThen_ok], ?_, .pv _ _ (rd_vs_of_rows (h2.mono hg.size hO) (heap_alloc_new w _) (by rw [← h3, ← Array.length_toList, List.take_length]) hnO (Nat.le_refl _) hbig)⟩
    exact hs.grownNone hg

/-- A slice literal of the call's own. -/
theorem op_litOwn (kk : Nat) (hk : freshB s kk = true) {T e sz n : Nat} {parts : List (Nat × Operand)} {z : Value} {zs : List PV} {rows : List (List PV)} {xs : List (Nat × AV)} (ho : o.op = .buildSlice T n parts.toArray) (hrn : rows.length = n) (ht : sliceB P T e sz = true) (hz : zeroIs P e z) (hzs : czs z.cells.toList zs)
    (hzl : zs.length = sz) (hsz : Nat.blt 0 sz = true) (hlen : Nat.ble (n * sz) 16777216 = true) (hx : evs s parts = some xs) (hr : fillPV ((List.range n).map fun i => (i * sz, sz)) (List.replicate n zs).flatten xs = some rows.flatten) (hrow : (rows.all fun row => Nat.beq row.length sz) = true)
    (hd : o.dst = d) (hn : dOk s d = true) : OpOk ro P c o s ((s.addAt kk none (.row e sz rows)).put d (some (.ls kk))) :=
  opOk_mem (s1 := s.addAt kk none (.row e sz rows)) hd hn (by rw [ho]; intro k h; cases h) fun a w O θ hs => by
    subst hrn
    have hrow' : ∀ row ∈ rows, row.length = sz := fun row h => Nat.eq_of_beq_eq_true (List.all_eq_true.1 hrow row h)
    have hsz' : 0 < sz := by simpa [Nat.blt_eq] using hsz
    obtain ⟨us, h1, h2, h3⟩ := run_buildSlice ht hz hzs hzl hsz' hlen hx hr hrow' hs
    have hg := alloc_grown w (.cells us e)
    have hbig : rows.length ≤ maxLen := by
      have h5 : rows.length * sz ≤ 16777216 := Nat.le_of_ble_eq_true hlen
      have : rows.length ≤ rows.length * sz := Nat.le_mul_of_pos_right _ hsz'
      unfold maxLen; omega
    obtain ⟨O', θ', h4, h5, h6, h7⟩ := hs.addAt (w' := w.alloc (.cells us e)) (row := none) (v := .slice (some ⟨w.heap.size, 0, none⟩) rows.length rows.length) (b := .row e sz rows) kk hk none (by simp) (fun _ => rfl) hg
      (fun g hg => by simp [blkOf] at hg; subst hg; simp) rfl (fun O' θ' hO' hθ' => ⟨us.toList, ⟨by simpa using h3, .inr ⟨w.heap.size, rows.length, us, rfl, trivial, heap_alloc_new w _, Nat.le_refl _, hbig, Nat.le_of_eq h3.symm, by rw [← h3, ← Array.length_toList, List.take_length]⟩⟩,
        h2.mono hg.size (fun b hb hn => ⟨fun hh => by
          rcases (hO' b).1 hh with h | h
          · exact hn h
          · simp [blkOf] at h; omega, hg.block b hb (by simp)⟩)⟩)
    exact ⟨_, _, O', θ', by simp only [execOp, ho, List.map_toArray, h1, Sem.run_bind, Sem.run_pure, Result.andThen_ok], h7, .ls _ _ h6⟩

/-- append to a row of the call's own. -/
theorem op_append (kk : Nat) (hk : freshB s kk = true) {T e sz bytes : Nat} {x y : Operand} {id : Nat} {rows news rows' : List (List PV)} {z : Value} (ho : o.op = .call { callee := .builtin .append, args := #[x, y], argTypes := #[T, T] }) (hx : ev s x = some (.ls id)) (hb : look id s.hp = some (.row e sz rows))
    (hy : ev s y = some (.pv (.vs sz news))) (ht : sliceB P T e sz = true) (hby : elemB P e bytes = true) (hz : zeroIs P e z) (hzl : z.cells.size = sz) (hsz : Nat.blt 0 sz = true) (hby0 : Nat.blt 0 bytes = true) (hroom : (rows.length + news.length) * bytes ≤ 140737488355328)
    (hrows : rows ++ news = rows') (hd : o.dst = d) (hn : dOk s d = true) : OpOk ro P c o s ((s.addAt kk (some id) (.row e sz rows')).put d (some (.ls kk))) :=
  opOk_mem (s1 := s.addAt kk (some id) (.row e sz rows')) hd hn (by rw [ho]; intro k h; cases h) fun a w O θ hs => by
    subst hrows
    obtain ⟨i, h1, h2, h3⟩ := sliceB_spec ht
    have hb2 : i.bytes = bytes := by simpa [elemB, h2] using hby
    have hsz' : 0 < sz := by simpa [Nat.blt_eq] using hsz
    have hby1 : 0 < bytes := by simpa [Nat.blt_eq] using hby0
    obtain ⟨_, i', hi', hz'⟩ := zeroIs_spec hz w
    rw [h2] at hi'; cases hi'
    have hsum : rows.length + news.length ≤ maxLen := by
      have : rows.length + news.length ≤ (rows.length + news.length) * bytes := Nat.le_mul_of_pos_right _ hby1
      unfold maxLen; omega
    have h := ev_ok hs hx
    have hv := ev_pv hs hy
    generalize ha : a.eval x = u at h
    generalize hay : a.eval y = v at hv
    cases h with
    | ls _ _ h =>
      obtain ⟨v', hv', ⟨us, hown, hrd⟩, hO2⟩ := hs.hp id _ hb
      rw [h] at hv'; cases hv'
      have main : ∃ v' w' vs, (Builtin.append_ #[T, T] o.type #[u, v]).run P w = .ok v' w' ∧ ownsW w' e sz v' (rows.length + news.length) (us ++ vs) ∧ w.grownBy w' (blkOf u) ∧ RowsRd w O sz news vs ∧ (blkOf v' = blkOf u ∨ blkOf v' = some w.heap.size) := by
        rcases rd_vs hv with ⟨ad, cap0, rfl, rfl, hc0, _⟩ | ⟨b, off, cap, f, rfl, hr⟩
        · cases ad with
          | some ad =>
            obtain ⟨v', w', r1, r2, r3, r5⟩ := run_append_w (P := P) (ty := o.type) h1 h2 hz' h3 hb2 hzl hown ad 0 cap0 [] (by simp) (by simp) (by simp) hsum hroom
            exact ⟨v', w', [], r1, r2, r3, ⟨by simp, by simp, by simp, fun i j row x u h => by simp at h⟩, r5⟩
          | none =>
          obtain rfl := hc0 rfl
          exact ⟨u, w, [], run_append_nil_src w T o.type e i sz h1 h2 u _ us hown 0, by simpa using hown, World.grownBy.refl w _, ⟨by simp, by simp, by simp, fun i j row x u h => by simp at h⟩, .inl rfl⟩
        · obtain ⟨vs, q1, q2, q3, q4⟩ := rows_of_vs hr
          have h1c : ∀ u ∈ vs, u.oneCell' = true := by
            intro u hu
            obtain ⟨k, hk⟩ := List.getElem?_of_mem hu
            have hkl : k < news.length * sz := by have := (List.getElem?_eq_some_iff.1 hk).1; rw [q1.len] at this; exact this
            have hq : k / sz < news.length := Nat.div_lt_of_lt_mul (by rw [Nat.mul_comm]; exact hkl)
            have hm : k % sz < sz := Nat.mod_lt _ hsz'
            have e1 : k / sz * sz + k % sz = k := by rw [Nat.mul_comm]; exact Nat.div_add_mod k sz
            have er : news[k / sz]? = some news[k / sz] := List.getElem?_eq_getElem hq
            have hl' : k % sz < news[k / sz].length := by rw [q1.hz _ (List.mem_of_getElem? er)]; exact hm
            exact (q1.rd _ _ _ _ u er (List.getElem?_eq_getElem hl') (by rw [e1]; exact hk)).one_ (q1.one _ (List.mem_of_getElem? er) _ (List.getElem_mem hl'))
          obtain ⟨v', w', r1, r2, r3, r5⟩ := run_append_w (P := P) (ty := o.type) h1 h2 hz' h3 hb2 hzl hown ⟨b, off, none⟩ news.length cap vs q1.len (fun j u hu => by rw [Addr.add_lit]; exact q2 j u hu) h1c hsum hroom
          exact ⟨v', w', vs, r1, r2, r3, q1, r5⟩
      obtain ⟨v', w', vs, r1, r2, r3, r4, r5⟩ := main
      have hv'b : ∀ g, blkOf v' = some g → g < w'.heap.size ∧ (w.heap.size ≤ g ∨ blkOf u = some g) := by
        intro g hg
        have hlt : g < w'.heap.size := by
          rcases r2.2 with ⟨rfl, _⟩ | ⟨g', cap, cur, rfl, _, hh, _⟩
          · cases hg
          · simp [blkOf] at hg; subst hg
            rcases Nat.lt_or_ge g' w'.heap.size with h1 | h1
            · exact h1
            · rw [Array.getElem?_eq_none h1] at hh; cases hh
        rcases r5 with r5 | r5
        · exact ⟨hlt, .inr (by rw [← r5]; exact hg)⟩
        · rw [hg] at r5; cases r5
          exact ⟨hlt, .inl (Nat.le_refl _)⟩
      obtain ⟨O', θ', h4, h5, h6, h7⟩ := hs.addAt (w' := w') (row := blkOf u) (v := v') (b := .row e sz (rows ++ news)) kk hk (some id) (fun A' hA' => by
          cases hA'; exact ⟨_, u, hb, h, rfl⟩) (by simp) r3 hv'b (by
          rcases r2.2 with ⟨rfl, _⟩ | ⟨g', cap, cur, rfl, _⟩ <;> rfl) (fun O' θ' hO' hθ' => ⟨us ++ vs, by simpa using r2, by
          have hO : ∀ b, b < w.heap.size → ¬ O b → ¬ O' b ∧ w'.heap[b]? = w.heap[b]? := by
            intro b hb1 hb2
            refine ⟨fun hh => ?_, r3.block b hb1 (fun e => hb2 (hO2 b e.symm).1)⟩
            rcases (hO' b).1 hh with h8 | h8
            · exact hb2 h8
            · rcases (hv'b b h8).2 with h9 | h9
              · omega
              · exact hb2 (hO2 b h9).1
          exact (hrd.mono r3.size hO).append (r4.mono r3.size hO)⟩)
      exact ⟨v', w', O', θ', by simp [execOp, ho, resolve, invoke, builtin, ha, hay, r1], h7, .ls _ _ h6⟩
end
end Go.Abs
