/- The abstract layer that the proof stands on: no condition. -/
import Derived.Test.YthhdlpggmmfaiaaGreatDotDeepA0
import Derived.Maps.AppendAt
import Derived.Laws.MakeOwn
import Derived.RangeFuncRecord
namespace Go.Abs
variable {G : List (Nat × List PV)}
open Go.RowKit
theorem heapOld (w : World) (o : Obj) (i : Nat) (h : i < w.heap.size) : (w.alloc o).heap[i]? = w.heap[i]? := heap_alloc_old w o i h
theorem flatten_get {α : Type} {sz : Nat} : ∀ {rows : List (List α)}, (∀ row ∈ rows, row.length = sz) → ∀ (i j : Nat) (row : List α), rows[i]? = some row → j < sz → rows.flatten[i * sz + j]? = row[j]?
 | [], _, i, j, row, h, _ => by simp at h
 | r :: rows, hz, 0, j, row, h, hj => by
  simp at h; subst h
  have := hz r (by simp)
  simp only [Nat.zero_mul, Nat.zero_add, List.flatten_cons]
  rw [List.getElem?_append_left (by omega)]
 | r :: rows, hz, i + 1, j, row, h, hj => by
  have h1 := hz r (by simp)
  simp only [List.getElem?_cons_succ] at h
  simp only [List.flatten_cons]
  rw [List.getElem?_append_right (by rw [Nat.add_mul]; omega), ← flatten_get (fun row hr => hz row (by simp [hr])) i j row h hj]
  congr 1
  rw [Nat.add_mul]; omega
theorem flatten_len {α : Type} {sz : Nat} : ∀ {rows : List (List α)}, (∀ row ∈ rows, row.length = sz) → rows.flatten.length = rows.length * sz
 | [], _ => by simp
 | r :: rows, h => by
  simp only [List.flatten_cons, List.length_append, List.length_cons, Nat.add_mul]
  rw [flatten_len (fun row hr => h row (by simp [hr])), h r (by simp)]
  omega
theorem rowsRd_of_flatten {w : World} {O : Nat → Prop} {sz : Nat} {rows : List (List PV)} {us : List Value} (h : Reads1 w O us rows.flatten) (hz : ∀ row ∈ rows, row.length = sz) : RowsRd w O sz rows us := by
 refine ⟨by rw [h.1, flatten_len hz], hz, fun row hr x hx => h.2.1 x (List.mem_flatten.2 ⟨row, hr, hx⟩), fun i j row x u h1 h2 h3 => ?_⟩
 have hj : j < sz := by have := (List.getElem?_eq_some_iff.1 h2).1; rw [hz row (List.mem_of_getElem? h1)] at this; exact this
 exact h.2.2 _ x u (by rw [flatten_get hz i j row h1 hj]; exact h2) h3
theorem RowsRd.append {w : World} {O : Nat → Prop} {sz : Nat} {rows rows' : List (List PV)} {us us' : List Value} (h : RowsRd w O sz rows us) (h' : RowsRd w O sz rows' us') : RowsRd w O sz (rows ++ rows') (us ++ us') := by
 refine ⟨by simp [h.len, h'.len, Nat.add_mul], ?_, ?_, ?_⟩
 ·intro row hr; rcases List.mem_append.1 hr with h1 | h1
  ·exact h.hz row h1
  ·exact h'.hz row h1
 ·intro row hr; rcases List.mem_append.1 hr with h1 | h1
  ·exact h.one row h1
  ·exact h'.one row h1
 ·intro i j row x u h1 h2 h3
  rw [List.getElem?_append] at h1
  split at h1
  ·rename_i hi
   have hj : j < sz := by have := (List.getElem?_eq_some_iff.1 h2).1; rw [h.hz row (List.mem_of_getElem? h1)] at this; exact this
   rw [List.getElem?_append_left (by rw [h.len]; exact index_lt hi hj)] at h3
   exact h.rd i j row x u h1 h2 h3
  ·rename_i hi
   have e : i * sz = (i - rows.length) * sz + rows.length * sz := by rw [← Nat.add_mul]; congr 1; omega
   rw [List.getElem?_append_right (by rw [h.len]; omega)] at h3
   refine h'.rd (i - rows.length) j row x u h1 h2 ?_
   rw [← h3, h.len]; congr 1; omega
theorem rd_vs_of_rows {w : World} {O : Nat → Prop} {sz : Nat} {rows : List (List PV)} {us : List Value} (h : RowsRd w O sz rows us) {g cap : Nat} {cur : Array Value} {e : TypeId} {f : Nat × Nat} (hg : w.heap[g]? = some (.cells cur e f))
  (ht : cur.toList.take (rows.length * sz) = us) (hO : ¬ O g) (hc : rows.length ≤ cap) (hm : cap ≤ maxLen) : Rd w O (.vs sz rows) (.slice (some ⟨g, 0, none⟩) rows.length cap) := by
 have hlt : g < w.heap.size := by
  rcases Nat.lt_or_ge g w.heap.size with h1 | h1
  ·exact h1
  ·rw [Array.getElem?_eq_none h1] at hg; cases hg
 refine .vs sz rows g 0 cap (fun k => us.getD k undef) hO hlt hc hm h.hz h.one (fun k hk => ?_) (fun i j row x h1 h2 => ?_)
 ·have hk' : k < us.length := by rw [h.len]; exact hk
  rw [Nat.zero_add, cell_of_row w g k cur e f hg]
  have : us[k]? = some us[k] := List.getElem?_eq_getElem hk'
  simp only [List.getD, this, Option.getD_some]
  have h2 : (cur.toList.take (rows.length * sz))[k]? = some us[k] := by rw [ht]; exact this
  rw [List.getElem?_take, if_pos hk] at h2
  simpa using h2
 ·have hi : i < rows.length := (List.getElem?_eq_some_iff.1 h1).1
  have hj : j < sz := by have := (List.getElem?_eq_some_iff.1 h2).1; rw [h.hz row (List.mem_of_getElem? h1)] at this; exact this
  have hk' : i * sz + j < us.length := by rw [h.len]; exact index_lt hi hj
  have : us[i * sz + j]? = some us[i * sz + j] := List.getElem?_eq_getElem hk'
  simp only [List.getD, this, Option.getD_some]
  exact h.rd i j row x _ h1 h2 this
theorem rows_of_vs {w : World} {O : Nat → Prop} {sz : Nat} {rows : List (List PV)} {b off cap : Nat} {us : Nat → Value} (h : ¬ O b ∧ b < w.heap.size ∧ rows.length ≤ cap ∧ cap ≤ maxLen ∧
  (∀ row ∈ rows, row.length = sz) ∧ (∀ row ∈ rows, ∀ x ∈ row, x.one = true) ∧ (∀ k, k < rows.length * sz → w.cell? ⟨b, off + k, none⟩ = some (us k)) ∧
  ∀ (i j : Nat) (row : List PV) (x : PV), rows[i]? = some row → row[j]? = some x → Rd w O x (us (i * sz + j))) :
  ∃ us : List Value, RowsRd w O sz rows us ∧ (∀ k u, us[k]? = some u → w.cell? ⟨b, off + k, none⟩ = some u) ∧ ¬ O b ∧ b < w.heap.size := by
 obtain ⟨h1, h2, h3, h4, h5, h6, h7, h8⟩ := h
 have key : ∃ us : List Value, RowsRd w O sz rows us ∧ (∀ k u, us[k]? = some u → w.cell? ⟨b, off + k, none⟩ = some u) ∧ ¬ O b ∧ b < w.heap.size := by
  refine ⟨(List.range (rows.length * sz)).map us, ⟨by simp, h5, h6, fun i j row x u hi hj hu => ?_⟩, fun k u hu => ?_, h1, h2⟩
  ·rw [List.getElem?_map, Option.map_eq_some_iff] at hu
   obtain ⟨k, hk, rfl⟩ := hu
   obtain ⟨hk1, hk2⟩ := List.getElem?_eq_some_iff.1 hk
   simp at hk2; subst hk2
   exact h8 i j row x hi hj
  ·rw [List.getElem?_map, Option.map_eq_some_iff] at hu
   obtain ⟨k', hk, rfl⟩ := hu
   obtain ⟨hk1, hk2⟩ := List.getElem?_eq_some_iff.1 hk
   simp at hk1 hk2; subst hk2
   exact h7 k (by omega)
 exact key
def elemB (P : Program) (e bytes : Nat) : Bool := match P.info? e with | some i => i.bytes == bytes | none => false
section
variable {ro : Option Nat} {P : Program} {c : Cx G} {s s' : St} {o : Oper} {d : Option Nat}
theorem run_append_nil_src (w : World) (t ty e : TypeId) (i : TypeInfo) (size : Nat) (ht : P.underlying t = some (.slice e)) (hi : P.info? e = some i)
  (v : Value) (n : Nat) (xs : List Value) (hown : ownsW w e size v n xs) (c : Nat) : (Builtin.append_ #[t, t] ty #[v, .slice none 0 c]).run P w = .ok v w := by
 rcases hown.2 with ⟨rfl, rfl⟩ | ⟨g, cap, cur, rfl, _, _, hnc, _⟩
 ·simp [Builtin.append_, run_underlying ht, sizeOf, typeInfo, hi, Builtin.lenOf, Builtin.firstCells]
 ·simp [Builtin.append_, run_underlying ht, sizeOf, typeInfo, hi, Builtin.lenOf, Builtin.firstCells, hnc, storeCells]
theorem run_append_w {w : World} {T e sz bytes : Nat} {ty : TypeId} {i : TypeInfo} {z : Value} (h1 : P.underlying T = some (.slice e)) (h2 : P.info? e = some i) (hz : i.zero = some z) (h3 : i.size = sz) (hb2 : i.bytes = bytes) (hzl : z.cells.size = sz)
  {u : Value} {n : Nat} {us : List Value} (hown : ownsW w e sz u n us) (ad : Addr) (m c : Nat) (vs : List Value) (hl : vs.length = m * sz) (hc : ∀ j v, vs[j]? = some v → w.cell? (ad.add j) = some v) (h1c : ∀ x ∈ vs, x.oneCell' = true)
  (hsum : n + m ≤ maxLen) (hroom : (n + m) * bytes ≤ 140737488355328) :
  ∃ v' w', (Builtin.append_ #[T, T] ty #[u, .slice (some ad) m c]).run P w = .ok v' w' ∧ ownsW w' e sz v' (n + m) (us ++ vs) ∧ w.grownBy w' (blkOf u) ∧ (blkOf v' = blkOf u ∨ blkOf v' = some w.heap.size) := by
 have hsm : n + m ≤ 9223372036854775807 := by simp only [maxLen] at hsum; omega
 have zs : ∀ k, (Builtin.zeroCells z.cells k).size = k * sz := fun k => by simp [Builtin.zeroCells, hzl]
 have hlen : (us ++ vs).length = (n + m) * sz := by rw [List.length_append, hown.1, hl, Nat.add_mul]
 have made : ∀ old : Nat, (row : Option Nat) → ownsW (w.drew.alloc (.cells (us.toArray ++ vs.toArray ++ Builtin.zeroCells z.cells (grownCap w (n + m) old e - (n + m))) e)) e sz (.slice (some ⟨w.heap.size, 0, none⟩) (n + m) (grownCap w (n + m) old e)) (n + m) (us ++ vs) ∧
   w.grownBy (w.drew.alloc (.cells (us.toArray ++ vs.toArray ++ Builtin.zeroCells z.cells (grownCap w (n + m) old e - (n + m))) e)) row := by
  intro old row
  have hge := grownCap_ge w (n + m) old e
  refine ⟨⟨hlen, .inr ⟨w.heap.size, _, _, rfl, trivial, heap_alloc_new w.drew _, hge, grownCap_le_maxLen w (n + m) old e hsum, ?_, ?_⟩⟩, ⟨rfl, rfl, rfl, by simp, fun k hk _ => heapOld w.drew _ k hk⟩⟩
  ·simp only [Array.size_append, List.size_toArray, zs, hown.1, hl, ← Nat.add_mul]
   exact Nat.mul_le_mul_right _ (by omega)
  ·simp only [Array.toList_append]
   rw [← hlen]
   exact List.take_left
 rcases hown.2 with ⟨rfl, rfl⟩ | ⟨g, cap, cur, rfl, _, hg, hnc, hcm, hcs, ht⟩
 ·obtain rfl : us = [] := List.eq_nil_of_length_eq_zero (by simpa using hown.1)
  rcases Nat.eq_zero_or_pos m with hm | hm
  ·subst hm
   obtain rfl : vs = [] := List.eq_nil_of_length_eq_zero (by simpa using hl)
   exact ⟨.slice none 0 0, w, by simp [Builtin.append_, run_underlying h1, sizeOf, typeInfo, h2, Builtin.lenOf, Builtin.firstCells, loadCells, loadCellsFrom], ownsW_nil w e sz, World.grownBy.refl w _, .inl rfl⟩
  ·have hr := run_append_nil (P := P) w T ty e i z h1 h2 hz ad m c vs (by rw [h3]; exact hl) hc hm (by omega) (by rw [hb2]; simp only [Nat.zero_add] at hroom; omega)
   obtain ⟨k1, k2⟩ := made 0 (blkOf (.slice none 0 0))
   simp only [Nat.zero_add, List.nil_append, Array.empty_append] at k1 k2 ⊢
   exact ⟨_, _, hr, k1, k2, .inr rfl⟩
 ·by_cases hfit : n + m ≤ cap
  ·have hle : n * sz + m * sz ≤ cur.size := by
    rw [← Nat.add_mul]; exact Nat.le_trans (Nat.mul_le_mul_right _ hfit) hcs
   have hr := run_append_room (P := P) w T ty e i h1 h2 g n cap cur hg ad m c vs (by rw [h3]; exact hl) hc h1c hfit (by rw [h3, hl]; exact hle)
   rw [h3] at hr
   refine ⟨_, _, hr, ⟨hlen, .inr ⟨g, cap, _, rfl, trivial, setRow_heap w g cur _ e _ hg, hfit, hcm, ?_, ?_⟩⟩, ⟨rfl, rfl, rfl, by simp, fun k _ hk => setRow_other w g k _ (fun e => hk (by simp [blkOf, e]))⟩, .inl rfl⟩
   ·simp only [List.size_toArray, List.length_append, List.length_take, List.length_drop, Array.length_toList, hl]
    omega
   ·rw [ht, ← hlen]
    exact List.take_left
  ·have hr := run_append_grow (P := P) w T ty e i z h1 h2 hz ⟨g, 0, none⟩ n cap us (by rw [h3]; exact hown.1) (hown.cells (g := g) rfl) ad m c vs (by rw [h3]; exact hl) hc (by omega) (by omega) (growslice_fits (by omega) (by rw [hb2]; exact hroom))
   obtain ⟨k1, k2⟩ := made cap (blkOf (.slice (some ⟨g, 0, none⟩) n cap))
   exact ⟨_, _, hr, k1, k2, .inr rfl⟩
theorem run_buildSlice {T e sz n : Nat} {parts : List (Nat × Operand)} {z : Value} {zs : List PV} {rows : List (List PV)} {xs : List (Nat × AV)} (ht : sliceB P T e sz = true) (hz : zeroIs P e z) (hzs : czs z.cells.toList zs)
  (hzl : zs.length = sz) (hsz : 0 < sz) (hlen : Nat.ble (n * sz) 16777216 = true) (hr : fillPV ((List.range n).map fun i => (i * sz, sz)) (List.replicate n zs).flatten xs = some rows.flatten) (hrow : ∀ row ∈ rows, row.length = sz)
  {O : Nat → Prop} {θ : Nat → Option Value} {a : Act} {w : World} (hs : SimAt c s O θ a w) (hx : EvL w O θ a.eval parts xs) :
  ∃ us : Array Value, (Instr.buildSlice T n (parts.map fun (i, x) => (i, a.eval x)).toArray).run P w = .ok (.slice (some ⟨w.heap.size, 0, none⟩) n n) (w.alloc (.cells us e)) ∧ RowsRd w O sz rows us.toList ∧ us.size = n * sz := by
 obtain ⟨i, h1, h2, h3⟩ := sliceB_spec ht
 have hzr := czs_reads1 (w := w) (O := O) hzs
 have hzc : z.cells.size = sz := by have := hzr.1; simp at this; omega
 have hlen' : n * sz ≤ 16777216 := Nat.le_of_ble_eq_true hlen
 have hrep : ∀ row ∈ List.replicate n zs, row.length = sz := fun row hr => by rw [List.eq_of_mem_replicate hr]; exact hzl
 have hfl : (List.replicate n zs).flatten.length = n * sz := by rw [flatten_len hrep]; simp
 have hinit : Reads1 w O (((Array.range (n * sz)).map (z.cells[· % z.cells.size]!))).toList (List.replicate n zs).flatten := by
  refine ⟨by simp [hfl], fun p hp => ?_, fun j p u hp hu => ?_⟩
  ·obtain ⟨row, hr, hp⟩ := List.mem_flatten.1 hp
   rw [List.eq_of_mem_replicate hr] at hp
   exact hzr.2.1 p hp
  ·have hj : j < n * sz := by have := (List.getElem?_eq_some_iff.1 hp).1; omega
   have hq : j / sz < n := Nat.div_lt_of_lt_mul (by rw [Nat.mul_comm]; exact hj)
   have hm : j % sz < sz := Nat.mod_lt _ hsz
   have e : j / sz * sz + j % sz = j := by rw [Nat.mul_comm]; exact Nat.div_add_mod j sz
   rw [← e, flatten_get hrep (j / sz) (j % sz) zs (by simp [hq]) hm] at hp
   simp only [Array.toList_map, List.getElem?_map, Array.toList_range, List.getElem?_range hj, Option.map_some, Option.some.injEq] at hu
   subst hu
   refine hzr.2.2 _ p _ hp ?_
   rw [hzc]
   have : j % sz < z.cells.size := by omega
   simp [this]
 obtain ⟨us', e1, e2⟩ := fill_okL (place := (List.range n).map fun i => (i * sz, sz)) (pf := fun i => some (i * sz, sz)) (fun i p hp => by
  rw [List.getElem?_map, Option.map_eq_some_iff] at hp
  obtain ⟨k, hk, rfl⟩ := hp
  obtain ⟨_, hk2⟩ := List.getElem?_eq_some_iff.1 hk
  simp at hk2; subst hk2; rfl) hs parts xs _ _ _ hx hr hinit
 have hrl := rowsRd_of_flatten e2 hrow
 have hus : us'.size = n * sz := by
  have h4 : rows.flatten.length = (List.replicate n zs).flatten.length := by
   have : ∀ (xs : List (Nat × AV)) (cells r : List PV), fillPV ((List.range n).map fun i => (i * sz, sz)) cells xs = some r → r.length = cells.length := by
    intro xs
    induction xs with
    | nil => intro cells r h; simp [fillPV] at h; rw [h]
    | cons x xs ih =>
     intro cells r h
     obtain ⟨i, v⟩ := x
     simp only [fillPV] at h
     split at h
     ·simp only [cond_eq_ite] at h
      split at h
      ·rename_i hc
       simp only [Bool.and_eq_true] at hc
       rw [ih _ _ h, splice_length _ _ _ (Nat.le_of_ble_eq_true hc.2)]
      ·cases h
     ·cases h
   exact this _ _ _ hr
  have := e2.1
  simp at this
  rw [this]
  rw [show (List.map List.length rows).sum = rows.flatten.length by simp, h4, hfl]
 refine ⟨us', ?_, hrl, hus⟩
 by_cases h0 : n * sz = 0
 ·have hn0 : n = 0 := by rcases Nat.mul_eq_zero.1 h0 with h | h <;> omega
  subst hn0
  have hr0 : ∀ f : Nat → Value, (Array.range 0).map f = #[] := fun f => by simp
  have e1' : Instr.fill (fun i => some (i * sz, sz)) #[] (parts.map fun (i, x) => (i, a.eval x)) = some us' := by
   rw [← e1, Nat.zero_mul, hr0]
  simp only [Instr.buildSlice, run_underlying h1, sizeOf, typeInfo, h2, h3, Sem.run_bind, Result.andThen_ok, run_program, Sem.run_pure, Nat.zero_mul, hr0, e1']
  simp [newRow, newObj, Sem.run]
 ·simp [Instr.buildSlice, run_underlying h1, sizeOf, typeInfo, h2, h3, h0, (zeroIs_spec hz w).1, e1, newRow, newObj, Sem.run, Nat.not_lt.2 hlen']
theorem op_lit {T e sz n : Nat} {parts : List (Nat × Operand)} {z : Value} {zs : List PV} {rows : List (List PV)} {xs : List (Nat × AV)} (ho : o.op = .buildSlice T n parts.toArray) (hrn : rows.length = n) (ht : sliceB P T e sz = true) (hz : zeroIs P e z) (hzs : czs z.cells.toList zs)
  (hzl : zs.length = sz) (hsz : Nat.blt 0 sz = true) (hlen : Nat.ble (n * sz) 16777216 = true) (hx : evs s parts = some xs) (hr : fillPV ((List.range n).map fun i => (i * sz, sz)) (List.replicate n zs).flatten xs = some rows.flatten) (hrow : (rows.all fun row => Nat.beq row.length sz) = true)
  (hd : o.dst = d) (hn : dOk s d = true) : OpOk ro P c o s (s.put d (some (.pv (.vs sz rows)))) :=
 opOk_mem (s1 := s) hd hn (by rw [ho]; intro k h; cases h) fun a w O θ hs => by
  subst hrn
  have hrow' : ∀ row ∈ rows, row.length = sz := fun row h => Nat.eq_of_beq_eq_true (List.all_eq_true.1 hrow row h)
  have hsz' : 0 < sz := by simpa [Nat.blt_eq] using hsz
  obtain ⟨us, h1, h2, h3⟩ := run_buildSlice ht hz hzs hzl hsz' hlen hr hrow' hs (EvL.of hs hx)
  have hg := alloc_grown w (.cells us e)
  have hO : ∀ b, b < w.heap.size → ¬ O b → ¬ O b ∧ (w.alloc (.cells us e)).heap[b]? = w.heap[b]? := fun b hb hn => ⟨hn, hg.block b hb (by simp)⟩
  have hnO : ¬ O w.heap.size := fun h => by have := hs.olt _ h; omega
  have hbig : rows.length ≤ maxLen := by
   have h5 : rows.length * sz ≤ 16777216 := Nat.le_of_ble_eq_true hlen
   have : rows.length ≤ rows.length * sz := Nat.le_mul_of_pos_right _ hsz'
   unfold maxLen; omega
  refine ⟨_, _, O, θ, by simp only [execOp, ho, List.map_toArray, h1, Sem.run_bind, Sem.run_pure, Result.andThen_ok], ?_, .pv _ _ (rd_vs_of_rows (h2.mono hg.size hO) (heap_alloc_new w _) (by rw [← h3, ← Array.length_toList, List.take_length]) hnO (Nat.le_refl _) hbig)⟩
  exact hs.grownNone hg
theorem op_litOwn (kk : Nat) (hk : freshB s kk = true) {T e sz n : Nat} {parts : List (Nat × Operand)} {z : Value} {zs : List PV} {rows : List (List PV)} {xs : List (Nat × AV)} (ho : o.op = .buildSlice T n parts.toArray) (hrn : rows.length = n) (ht : sliceB P T e sz = true) (hz : zeroIs P e z) (hzs : czs z.cells.toList zs)
  (hzl : zs.length = sz) (hsz : Nat.blt 0 sz = true) (hlen : Nat.ble (n * sz) 16777216 = true) (hx : evs s parts = some xs) (hr : fillPV ((List.range n).map fun i => (i * sz, sz)) (List.replicate n zs).flatten xs = some rows.flatten) (hrow : (rows.all fun row => Nat.beq row.length sz) = true)
  (hd : o.dst = d) (hn : dOk s d = true) : OpOk ro P c o s ((s.addAt kk none (.row e sz rows)).put d (some (.ls kk))) :=
 opOk_mem (s1 := s.addAt kk none (.row e sz rows)) hd hn (by rw [ho]; intro k h; cases h) fun a w O θ hs => by
  subst hrn
  have hrow' : ∀ row ∈ rows, row.length = sz := fun row h => Nat.eq_of_beq_eq_true (List.all_eq_true.1 hrow row h)
  have hsz' : 0 < sz := by simpa [Nat.blt_eq] using hsz
  obtain ⟨us, h1, h2, h3⟩ := run_buildSlice ht hz hzs hzl hsz' hlen hr hrow' hs (EvL.of hs hx)
  have hg := alloc_grown w (.cells us e)
  have hbig : rows.length ≤ maxLen := by
   have h5 : rows.length * sz ≤ 16777216 := Nat.le_of_ble_eq_true hlen
   have : rows.length ≤ rows.length * sz := Nat.le_mul_of_pos_right _ hsz'
   unfold maxLen; omega
  obtain ⟨O', θ', h4, h5, h6, h7⟩ := hs.addAt (w' := w.alloc (.cells us e)) (row := none) (v := .slice (some ⟨w.heap.size, 0, none⟩) rows.length rows.length) (b := .row e sz rows) kk hk none (by simp) (fun _ => rfl) hg
   (fun g hg => by simp [blkOf] at hg; subst hg; simp) rfl (fun O' θ' hO' hθ' => ⟨us.toList, ⟨by simpa using h3, .inr ⟨w.heap.size, rows.length, us, rfl, trivial, heap_alloc_new w _, Nat.le_refl _, hbig, Nat.le_of_eq h3.symm, by rw [← h3, ← Array.length_toList, List.take_length]⟩⟩,
    h2.mono hg.size (fun b hb hn => ⟨fun hh => by
     rcases (hO' b).1 hh with h | h
     ·exact hn h
     ·simp [blkOf] at h; omega, hg.block b hb (by simp)⟩)⟩)
  exact ⟨_, _, O', θ', by simp only [execOp, ho, List.map_toArray, h1, Sem.run_bind, Sem.run_pure, Result.andThen_ok], h7, .ls _ _ h6⟩
theorem op_append (kk : Nat) (hk : freshB s kk = true) {T e sz bytes : Nat} {x y : Operand} {id : Nat} {rows news rows' : List (List PV)} {z : Value} (ho : o.op = .call { callee := .builtin .append, args := #[x, y], argTypes := #[T, T] }) (hx : ev s x = some (.ls id)) (hb : look id s.hp = some (.row e sz rows))
  (hy : ev s y = some (.pv (.vs sz news))) (ht : sliceB P T e sz = true) (hby : elemB P e bytes = true) (hz : zeroIs P e z) (hzl : z.cells.size = sz) (hsz : Nat.blt 0 sz = true) (hby0 : Nat.blt 0 bytes = true) (hroom : (rows.length + news.length) * bytes ≤ 140737488355328)
  (hrows : rows ++ news = rows') (hd : o.dst = d) (hn : dOk s d = true) : OpOk ro P c o s ((s.addAt kk (some id) (.row e sz rows')).put d (some (.ls kk))) :=
 opOk_mem (s1 := s.addAt kk (some id) (.row e sz rows')) hd hn (by rw [ho]; intro k h; cases h) fun a w O θ hs => by
  subst hrows
  obtain ⟨i, h1, h2, h3⟩ := sliceB_spec ht
  have hb2 : i.bytes = bytes := by simpa [elemB, h2] using hby
  have hsz' : 0 < sz := by simpa [Nat.blt_eq] using hsz
  have hby1 : 0 < bytes := by simpa [Nat.blt_eq] using hby0
  obtain ⟨_, i', hi', hz'⟩ := zeroIs_spec hz w
  rw [h2] at hi'; cases hi'
  have hsum : rows.length + news.length ≤ maxLen := by
   have : rows.length + news.length ≤ (rows.length + news.length) * bytes := Nat.le_mul_of_pos_right _ hby1
   unfold maxLen; omega
  have h := ev_ok hs hx
  have hv := ev_pv hs hy
  generalize ha : a.eval x = u at h
  generalize hay : a.eval y = v at hv
  cases h with
  | ls _ _ h =>
   obtain ⟨v', hv', ⟨us, hown, hrd⟩, hO2⟩ := hs.hp id _ hb
   rw [h] at hv'; cases hv'
   have main : ∃ v' w' vs, (Builtin.append_ #[T, T] o.type #[u, v]).run P w = .ok v' w' ∧ ownsW w' e sz v' (rows.length + news.length) (us ++ vs) ∧ w.grownBy w' (blkOf u) ∧ RowsRd w O sz news vs ∧ (blkOf v' = blkOf u ∨ blkOf v' = some w.heap.size) := by
    rcases rd_vs hv with ⟨ad, cap0, rfl, rfl, hc0, _⟩ | ⟨b, off, cap, f, rfl, hr⟩
    ·cases ad with
     | some ad =>
      obtain ⟨v', w', r1, r2, r3, r5⟩ := run_append_w (P := P) (ty := o.type) h1 h2 hz' h3 hb2 hzl hown ad 0 cap0 [] (by simp) (by simp) (by simp) hsum hroom
      exact ⟨v', w', [], r1, r2, r3, ⟨by simp, by simp, by simp, fun i j row x u h => by simp at h⟩, r5⟩
     | none =>
     obtain rfl := hc0 rfl
     exact ⟨u, w, [], run_append_nil_src w T o.type e i sz h1 h2 u _ us hown 0, by simpa using hown, World.grownBy.refl w _, ⟨by simp, by simp, by simp, fun i j row x u h => by simp at h⟩, .inl rfl⟩
    ·obtain ⟨vs, q1, q2, q3, q4⟩ := rows_of_vs hr
     have h1c : ∀ u ∈ vs, u.oneCell' = true := by
      intro u hu
      obtain ⟨k, hk⟩ := List.getElem?_of_mem hu
      have hkl : k < news.length * sz := by have := (List.getElem?_eq_some_iff.1 hk).1; rw [q1.len] at this; exact this
      have hq : k / sz < news.length := Nat.div_lt_of_lt_mul (by rw [Nat.mul_comm]; exact hkl)
      have hm : k % sz < sz := Nat.mod_lt _ hsz'
      have e1 : k / sz * sz + k % sz = k := by rw [Nat.mul_comm]; exact Nat.div_add_mod k sz
      have er : news[k / sz]? = some news[k / sz] := List.getElem?_eq_getElem hq
      have hl' : k % sz < news[k / sz].length := by rw [q1.hz _ (List.mem_of_getElem? er)]; exact hm
      exact (q1.rd _ _ _ _ u er (List.getElem?_eq_getElem hl') (by rw [e1]; exact hk)).one_ (q1.one _ (List.mem_of_getElem? er) _ (List.getElem_mem hl'))
     obtain ⟨v', w', r1, r2, r3, r5⟩ := run_append_w (P := P) (ty := o.type) h1 h2 hz' h3 hb2 hzl hown ⟨b, off, none⟩ news.length cap vs q1.len (fun j u hu => by rw [Addr.add_lit]; exact q2 j u hu) h1c hsum hroom
     exact ⟨v', w', vs, r1, r2, r3, q1, r5⟩
   obtain ⟨v', w', vs, r1, r2, r3, r4, r5⟩ := main
   have hv'b : ∀ g, blkOf v' = some g → g < w'.heap.size ∧ (w.heap.size ≤ g ∨ blkOf u = some g) := by
    intro g hg
    have hlt : g < w'.heap.size := by
     rcases r2.2 with ⟨rfl, _⟩ | ⟨g', cap, cur, rfl, _, hh, _⟩
     ·cases hg
     ·simp [blkOf] at hg; subst hg
      rcases Nat.lt_or_ge g' w'.heap.size with h1 | h1
      ·exact h1
      ·rw [Array.getElem?_eq_none h1] at hh; cases hh
    rcases r5 with r5 | r5
    ·exact ⟨hlt, .inr (by rw [← r5]; exact hg)⟩
    ·rw [hg] at r5; cases r5
     exact ⟨hlt, .inl (Nat.le_refl _)⟩
   obtain ⟨O', θ', h4, h5, h6, h7⟩ := hs.addAt (w' := w') (row := blkOf u) (v := v') (b := .row e sz (rows ++ news)) kk hk (some id) (fun A' hA' => by
     cases hA'; exact ⟨_, u, hb, h, rfl⟩) (by simp) r3 hv'b (by
     rcases r2.2 with ⟨rfl, _⟩ | ⟨g', cap, cur, rfl, _⟩ <;> rfl) (fun O' θ' hO' hθ' => ⟨us ++ vs, by simpa using r2, by
     have hO : ∀ b, b < w.heap.size → ¬ O b → ¬ O' b ∧ w'.heap[b]? = w.heap[b]? := by
      intro b hb1 hb2
      refine ⟨fun hh => ?_, r3.block b hb1 (fun e => hb2 (hO2 b e.symm).1)⟩
      rcases (hO' b).1 hh with h8 | h8
      ·exact hb2 h8
      ·rcases (hv'b b h8).2 with h9 | h9
       ·omega
       ·exact hb2 (hO2 b h9).1
     exact (hrd.mono r3.size hO).append (r4.mono r3.size hO)⟩)
   exact ⟨v', w', O', θ', by simp [execOp, ho, resolve, invoke, builtin, ha, hay, r1], h7, .ls _ _ h6⟩
end
end Go.Abs

namespace Go.Abs
variable {G : List (Nat × List PV)}
open Go.RowKit
inductive Tag where
 | b
 | i (k : IntKind)
 | s
 deriving DecidableEq
section
variable {P : Program}
theorem Reads1.cut {w : World} {O : Nat → Prop} {us : List Value} {ps : List PV} (h : Reads1 w O us ps) (a b : Nat) : Reads1 w O ((us.drop a).take b) ((ps.drop a).take b) := by
 refine ⟨by simp [h.1], fun p hp => h.2.1 p (List.mem_of_mem_drop (List.mem_of_mem_take hp)), fun j p u hp hu => ?_⟩
 rw [List.getElem?_take] at hp hu
 split at hp
 ·rename_i hj
  rw [if_pos hj] at hu
  rw [List.getElem?_drop] at hp hu
  exact h.2.2 _ p u hp hu
 ·cases hp
end
end Go.Abs

namespace Go.Abs
variable {G : List (Nat × List PV)}
open Go.RowKit
section
variable {ro : Option Nat} {P : Program} {c : Cx G} {s s' : St} {o : Oper} {d : Option Nat}
end
end Go.Abs

namespace Go.Abs
variable {G : List (Nat × List PV)}
open Go.RowKit
def cutL {α : Type} (xs : List α) (l h : Int) : Option (List α) := if 0 ≤ l ∧ l ≤ h ∧ h ≤ xs.length then some ((xs.take h.toNat).drop l.toNat) else none
theorem cutL_spec {α : Type} {xs r : List α} {l h : Int} (e : cutL xs l h = some r) : 0 ≤ l ∧ l ≤ h ∧ h ≤ xs.length ∧ r = (xs.take h.toNat).drop l.toNat := by
 unfold cutL at e
 split at e
 ·rename_i hh; cases e; exact ⟨hh.1, hh.2.1, hh.2.2, rfl⟩
 ·cases e
def evo (s : St) : Option Operand → Option (Option Int)
 | none => some none
 | some x => match ev s x with
  | some (.pv (.int _ n)) => some (some n)
  | _ => none
section
variable {ro : Option Nat} {P : Program} {c : Cx G} {s s' : St} {o : Oper} {d : Option Nat}
theorem run_sliceBound {w : World} {k : IntKind} {n : Int} {y : Nat} {code : BoundsCode} (h0 : 0 ≤ n) (h1 : n ≤ y) : (Instr.sliceBound (.int k n) y code).run P w = .ok n.toNat w := by
 simp [Instr.sliceBound, asIntOf, h0, h1]
theorem evo_ok {O : Nat → Prop} {θ : Nat → Option Value} {a : Act} {w : World} (hs : SimAt c s O θ a w) {x : Option Operand} {n : Option Int} (h : evo s x = some n) :
  (x = none ∧ n = none) ∨ ∃ y k m, x = some y ∧ n = some m ∧ a.eval y = .int k m := by
 cases x with
 | none => simp [evo] at h; exact .inl ⟨rfl, h.symm⟩
 | some y =>
  simp only [evo] at h
  split at h
  ·rename_i k m hy
   cases h
   exact .inr ⟨y, k, m, rfl, rfl, ev_int hs hy⟩
  ·cases h
theorem op_slice_str {T : TypeId} {x : Operand} {lo hi : Option Operand} {l r : List UInt8} {nl nh : Option Int} (ho : o.op = .slice T x lo hi none) (hx : ev s x = some (.pv (.str l))) (hlo : evo s lo = some nl) (hhi : evo s hi = some nh) (ht : P.underlying T = some .string)
  (hr : cutL l (nl.getD 0) (nh.getD l.length) = some r) (hd : o.dst = d) (hn : dOk s d = true) : OpOk ro P c o s (s.put d (some (.pv (.str r)))) :=
 opOk_value hd hn (by rw [ho]; intro k h; cases h) fun a w O θ hs => by
  obtain ⟨h1, h2, h3, rfl⟩ := cutL_spec hr
  have hv := ev_str hs hx
  have hsz : (⟨l.toArray⟩ : ByteArray).size = l.length := by simp [ByteArray.size]
  refine ⟨.string ((⟨l.toArray⟩ : ByteArray).extract (nl.getD 0).toNat (nh.getD l.length).toNat), ?_, .pv _ _ ?_⟩
  ·rcases evo_ok hs hlo with ⟨rfl, rfl⟩ | ⟨yl, kl, ml, rfl, rfl, e1⟩ <;> rcases evo_ok hs hhi with ⟨rfl, rfl⟩ | ⟨yh, kh, mh, rfl, rfl, e2⟩
   ·have hex : (⟨l.toArray⟩ : ByteArray) = (⟨l.toArray⟩ : ByteArray).extract 0 l.length := by apply ByteArray.ext; simp [ByteArray.data_extract]
    simp [execOp, ho, hv, Instr.sliceAt, run_underlying ht, Instr.slice, Instr.sliceBounds, hsz]
    exact hex
   ·simp only [Option.getD_some, Option.getD_none] at h1 h2 h3 ⊢
    have b1 := run_sliceBound (P := P) (w := w) (k := kh) (code := .sliceAlen) (show 0 ≤ mh by omega) h3
    simp [execOp, ho, hv, Instr.sliceAt, run_underlying ht, Instr.slice, Instr.sliceBounds, hsz, e2, b1]
   ·simp only [Option.getD_some, Option.getD_none] at h1 h2 h3 ⊢
    have b1 := run_sliceBound (P := P) (w := w) (k := kl) (code := .sliceB) h1 h2
    simp [execOp, ho, hv, Instr.sliceAt, run_underlying ht, Instr.slice, Instr.sliceBounds, hsz, e1, b1]
   ·simp only [Option.getD_some] at h1 h2 h3 ⊢
    have b1 := run_sliceBound (P := P) (w := w) (k := kh) (code := .sliceAlen) (show 0 ≤ mh by omega) h3
    have b2 := run_sliceBound (P := P) (w := w) (k := kl) (y := mh.toNat) (code := .sliceB) h1 (by omega)
    simp [execOp, ho, hv, Instr.sliceAt, run_underlying ht, Instr.slice, Instr.sliceBounds, hsz, e1, e2, b1, b2]
  ·have : ((⟨l.toArray⟩ : ByteArray).extract (nl.getD 0).toNat (nh.getD l.length).toNat) = ⟨((l.take (nh.getD l.length).toNat).drop (nl.getD 0).toNat).toArray⟩ := by
    apply ByteArray.ext
    simp [ByteArray.data_extract, List.drop_take]
   rw [this]; exact .str _
theorem op_index_str {T : TypeId} {x y : Operand} {k : IntKind} {n : Int} {l : List UInt8} {b : UInt8} (ho : o.op = .index T x y) (hx : ev s x = some (.pv (.str l))) (hy : ev s y = some (.pv (.int k n))) (hb : idx l n = some b) (ht : P.underlying T = some .string) (hd : o.dst = d) (hn : dOk s d = true) :
  OpOk ro P c o s (s.put d (some (.pv (.int .u8 b.toNat)))) :=
 opOk_value hd hn (by rw [ho]; intro k h; cases h) fun a w O θ hs => by
  obtain ⟨h0, h1, h2⟩ := idx_spec hb
  have hl : n.toNat < l.length := by omega
  refine ⟨.int .u8 b.toNat, ?_, .pv _ _ (.int _ _)⟩
  have hget : (⟨l.toArray⟩ : ByteArray)[n.toNat]? = some b := by
   rw [getElem?_pos (⟨l.toArray⟩ : ByteArray) n.toNat (by simpa [ByteArray.size] using hl)]
   obtain ⟨_, h3⟩ := List.getElem?_eq_some_iff.1 h1
   exact congrArg some h3
  simp [execOp, ho, ev_str hs hx, ev_int hs hy, Instr.index, asIntOf, run_underlying ht, h0, hget]
theorem op_convInt {T T' : TypeId} {x : Operand} {k k' : IntKind} {n : Int} {td : TypeDesc} (ho : o.op = .convert T T' x) (hx : ev s x = some (.pv (.int k n))) (ht0 : P.underlying T = some td) (ht : P.underlying T' = some (.int k')) (hd : o.dst = d) (hn : dOk s d = true) :
  OpOk ro P c o s (s.put d (some (.pv (.int k' (k'.wrap n))))) :=
 opOk_value hd hn (by rw [ho]; intro k h; cases h) fun a w O θ hs => ⟨_, by simp [execOp, ho, ev_int hs hx, convert, run_underlying ht0, run_underlying ht, Conv.intToInt], .pv _ _ (.int _ _)⟩
theorem op_field_agg1 {T f off : Nat} {ft : TypeId} {x : Operand} {ps : List PV} {p : PV} {fs : Array Field} {fld : Field} (ho : o.op = .field T x f) (hx : ev s x = some (.pv (.agg ps))) (hu : P.underlying T = some (.struct fs)) (hf : fs[f]? = some fld) (hft : fld.type = ft) (hoff : fld.offset = off) (ht : oneB P ft = true) (hp : ps[off]? = some p) (hd : o.dst = d) (hn : dOk s d = true) :
  OpOk ro P c o s (s.put d (some (.pv p))) :=
 opOk_value hd hn (by rw [ho]; intro k h; cases h) fun a w O θ hs => by
  obtain ⟨us, he, h1, h2, h3⟩ := rd_agg (ev_pv hs hx)
  obtain ⟨t1, t2, _⟩ := oneB_spec ht
  have hlt : off < us.size := by rw [h1]; exact (List.getElem?_eq_some_iff.1 hp).1
  have hu' : us[off]? = some us[off] := by simp [hlt]
  exact ⟨us[off], by simp [execOp, ho, he, Instr.field, run_underlying hu, hf, hft, hoff, asAgg, part, t1, hu'], .pv _ _ (h3 off p _ hp hu')⟩
theorem op_min2 {T : Array TypeId} {x y : Operand} {k k' : IntKind} {m n : Int} (ho : o.op = .call { callee := .builtin .min, args := #[x, y], argTypes := T }) (hx : ev s x = some (.pv (.int k m))) (hy : ev s y = some (.pv (.int k' n))) (hd : o.dst = d) (hn : dOk s d = true) :
  OpOk ro P c o s (s.put d (some (.pv (.int k (if n < m then n else m))))) :=
 opOk_value hd hn (by rw [ho]; intro k h; cases h) fun a w O θ hs => ⟨_, by simp [execOp, ho, resolve, invoke, builtin, ev_int hs hx, ev_int hs hy, Builtin.min_, Builtin.min2], .pv _ _ (.int _ _)⟩
def evl (s : St) : List Operand → Option (List AV)
 | [] => some []
 | x :: l => match ev s x, evl s l with
  | some v, some vs => some (v :: vs)
  | _, _ => none
theorem evl_ok {O : Nat → Prop} {θ : Nat → Option Value} {a : Act} {w : World} (hs : SimAt c s O θ a w) : ∀ {l : List Operand} {xs : List AV}, evl s l = some xs → l.length = xs.length ∧ ∀ (i : Nat) (x : AV) (u : Value), xs[i]? = some x → (l.map a.eval)[i]? = some u → RdA w O θ x u
 | [], xs, h => by simp [evl] at h; subst h; simp
 | y :: l, xs, h => by
  simp only [evl] at h
  split at h
  ·rename_i v vs hv hvs
   cases h
   obtain ⟨h1, h2⟩ := evl_ok hs hvs
   refine ⟨by simp [h1], fun i x u hx hu => ?_⟩
   cases i with
   | zero => simp at hx hu; subst hx; subst hu; exact ev_ok hs hv
   | succ i => simp at hx hu; exact h2 i x u hx (by simpa using hu)
  ·cases h
theorem op_makeFunc {f : Nat} {caps : List Operand} {xs : List AV} (ho : o.op = .makeFunc (.func f) #[] caps.toArray) (hx : evl s caps = some xs) (hd : o.dst = d) (hn : dOk s d = true) : OpOk ro P c o s (s.put d (some (.fn f xs))) :=
 opOk_value hd hn (by rw [ho]; intro k h; cases h) fun a w O θ hs => by
  obtain ⟨h1, h2⟩ := evl_ok hs hx
  exact ⟨.func (.func f) #[] (caps.map a.eval).toArray, by simp [execOp, ho, Instr.makeFunc], .fn f xs _ (by simp [h1]) (fun i x u hx hu => h2 i x u hx (by simpa using hu))⟩
end
end Go.Abs

namespace Go.Abs
variable {G : List (Nat × List PV)}
open Go.RowKit
def Imp (c : Cx G) (s s' : St) : Prop := ∀ a w, Sim c s a w → Sim c s' a w
section
variable {ro : Option Nat} {P : Program} {c : Cx G} {Q : Exit → Act → World → Prop} {s s' : St}
theorem aw_imp {k : Code} (h : Imp c s s') (h' : AW ro P c k Q s') : AW ro P c k Q s := fun a w hs => h' a w (h a w hs)
theorem post_imp {e : Exit} (h : Imp c s s') (h' : Post c Q e s') : Post c Q e s := fun a w hs => h' a w (h a w hs)
theorem rnd_imp {k : Code} {m : Nat} (h : Imp c s s') (h' : RndW ro P c k Q m s') : RndW ro P c k Q m s := fun a w hs => h' a w (h a w hs)
theorem reg_imp {all l : List Oper} (h : Imp c s s') (h' : RegW ro P c all l Q s') : RegW ro P c all l Q s := fun a w hs => h' a w (h a w hs)
def SubF (fr : List (Nat × Option AV)) (ρ : Nat → Nat) : List (Nat × Option AV) → Prop
 | [] => True
 | (_, none) :: l => SubF fr ρ l
 | (t, some x) :: l => look t fr = some (x.map ρ) ∧ SubF fr ρ l
def SubH (hp : List (Nat × Option Blk)) (ρ : Nat → Nat) : List (Nat × Option Blk) → Prop
 | [] => True
 | (_, none) :: l => SubH hp ρ l
 | (id, some b) :: l => look (ρ id) hp = some (b.map ρ) ∧ SubH hp ρ l
theorem look_mem {α : Type} {t : Nat} {x : α} : ∀ {l : List (Nat × Option α)}, look t l = some x → (t, some x) ∈ l
 | [], h => by simp [look] at h
 | (k, y) :: l, h => by
  rw [look_cons] at h
  split at h
  ·rename_i e; subst e; subst h; simp
  ·exact List.mem_cons_of_mem _ (look_mem h)
theorem SubF.spec {fr : List (Nat × Option AV)} {ρ : Nat → Nat} : ∀ {l : List (Nat × Option AV)}, SubF fr ρ l → ∀ t x, (t, some x) ∈ l → look t fr = some (x.map ρ)
 | (_, none) :: l, h, t, x, hm => by
  rcases List.mem_cons.1 hm with h1 | h1
  ·cases h1
  ·exact SubF.spec (l := l) h t x h1
 | (t', some x') :: l, h, t, x, hm => by
  rcases List.mem_cons.1 hm with h1 | h1
  ·cases h1; exact h.1
  ·exact SubF.spec (l := l) h.2 t x h1
theorem SubH.spec {hp : List (Nat × Option Blk)} {ρ : Nat → Nat} : ∀ {l : List (Nat × Option Blk)}, SubH hp ρ l → ∀ t x, (t, some x) ∈ l → look (ρ t) hp = some (x.map ρ)
 | (_, none) :: l, h, t, x, hm => by
  rcases List.mem_cons.1 hm with h1 | h1
  ·cases h1
  ·exact SubH.spec (l := l) h t x h1
 | (t', some x') :: l, h, t, x, hm => by
  rcases List.mem_cons.1 hm with h1 | h1
  ·cases h1; exact h.1
  ·exact SubH.spec (l := l) h.2 t x h1
theorem BlkOk.ren {w : World} {O : Nat → Prop} {θ θ' : Nat → Option Value} (ρ : Nat → Nat) (hθ : ∀ i v, θ (ρ i) = some v → θ' i = some v) {v : Value} {b : Blk} (h : BlkOk w O θ v (b.map ρ)) : BlkOk w O θ' v b := by
 cases b with
 | row e sz rows => exact h
 | box t cells =>
  obtain ⟨g, us, h1, h2, h3, h4⟩ := h
  refine ⟨g, us, h1, h2, by rw [h3, AV.mapL_length], fun j x u hx hu => ?_⟩
  have := h4 j (x.map ρ) u (by rw [AV.mapL_get, hx]; rfl) hu
  exact ⟨this.1.ren ρ hθ x rfl, this.2⟩
 | dict P t n m => exact h
 | dictE P t n m key id2 =>
  obtain ⟨b, st, e, h4, h5⟩ := h
  exact ⟨b, st, e, hθ _ _ h4, h5⟩
theorem nodup_inj : ∀ {L : List Nat}, L.Nodup → ∀ (i j : Nat) (x : Nat), L[i]? = some x → L[j]? = some x → i = j
 | [], _, i, j, x, h, _ => by simp at h
 | y :: L, hn, 0, 0, x, _, _ => rfl
 | y :: L, hn, 0, j + 1, x, h1, h2 => by
  simp at h1 h2; subst h1
  exact absurd (List.mem_of_getElem? h2) (List.nodup_cons.1 hn).1
 | y :: L, hn, i + 1, 0, x, h1, h2 => by
  simp at h1 h2; subst h2
  exact absurd (List.mem_of_getElem? h1) (List.nodup_cons.1 hn).1
 | y :: L, hn, i + 1, j + 1, x, h1, h2 => by
  simp only [List.getElem?_cons_succ] at h1 h2
  rw [nodup_inj (List.nodup_cons.1 hn).2 i j x h1 h2]
theorem imp_sub (L : List Nat) (hn : s'.n = s.n) (hnd : L.Nodup) (hnext : s'.next = L.length) (hfree : s'.free = []) (hF : SubF s.fr (fun i => L.getD i s.next) s'.fr) (hH : SubH s.hp (fun i => L.getD i s.next) s'.hp)
  (hids : (s'.hp.all fun x => Nat.blt x.1 L.length) = true) (hys : s'.ys = s.ys) (hkt : s'.kt = s.kt) : Imp c s s' := by
 rintro a w ⟨O, θ, h⟩
 have hget : ∀ i, i < L.length → ∃ x, L[i]? = some x ∧ L.getD i s.next = x := fun i hi => ⟨L[i], List.getElem?_eq_getElem hi, by simp [List.getD, List.getElem?_eq_getElem hi]⟩
 have hρ : ∀ i v, θ (L.getD i s.next) = some v → (if i < L.length then θ (L.getD i s.next) else none) = some v := by
  intro i v h'
  by_cases hi : i < L.length
  ·rw [if_pos hi]; exact h'
  ·exfalso
   have : L.getD i s.next = s.next := by simp [List.getD, List.getElem?_eq_none (Nat.not_lt.1 hi)]
   rw [this] at h'
   have := (h.dom _ _ h').1
   omega
 have hlt : ∀ id b, look id s'.hp = some b → id < L.length := by
  intro id b hb
  have := List.all_eq_true.1 hids _ (look_mem hb)
  simpa [Nat.blt_eq] using this
 have hback : ∀ i v, (if i < L.length then θ (L.getD i s.next) else none) = some v → i < L.length ∧ θ (L.getD i s.next) = some v := by
  intro i v h'
  split at h'
  ·rename_i hi; exact ⟨hi, h'⟩
  ·cases h'
 refine ⟨O, fun i => if i < L.length then θ (L.getD i s.next) else none, ?_⟩
 refine ⟨h.size.trans hn.symm, h.df, fun t x hx => (h.fr t _ (hF.spec t x (look_mem hx))).ren _ hρ x rfl, ?_, ?_, ?_, ?_, ?_, h.olt, h.ext, h.xo, h.xlt, h.llt, ?_, h.oc, by rw [hkt]; exact h.kp, ?_⟩
 ·intro id b hb
  obtain ⟨v, hv, hbo, hg⟩ := h.hp _ _ (hH.spec id b (look_mem hb))
  exact ⟨v, hρ _ _ hv, hbo.ren _ hρ, hg⟩
 ·intro i j bi bj vi vj g hi hj hvi hvj hgi hgj
  obtain ⟨hi', hvi'⟩ := hback i vi hvi
  obtain ⟨hj', hvj'⟩ := hback j vj hvj
  have e := h.inj _ _ _ _ vi vj g (hH.spec i bi (look_mem hi)) (hH.spec j bj (look_mem hj)) hvi' hvj' hgi hgj
  obtain ⟨x, hx1, hx2⟩ := hget i hi'
  obtain ⟨y, hy1, hy2⟩ := hget j hj'
  rw [hx2, hy2] at e; subst e
  exact nodup_inj hnd i j x hx1 hy1
 ·intro id v hv
  rw [hnext, hfree]; exact ⟨(hback id v hv).1, by simp⟩
 ·rw [hfree]; simp
 ·intro id v hv
  exact h.one _ _ (hback id v hv).2
 ·exact h.marks
 ·rw [hys]
  refine c.Jst h.jn ⟨rfl, rfl, rfl, Nat.le_refl _, fun _ _ _ => rfl, fun g h => .inl h, fun g h _ => h, h.olt, fun g hI => .inl ?_⟩
  rcases hI with hI | ⟨id, b, v, h1, h2, h3⟩ | hI
  ·exact .inl hI
  ·exact .inr (.inl ⟨_, _, v, hH.spec id b (look_mem h1), (hback id v h2).2, h3⟩)
  ·exact .inr (.inr hI)
def viewPV (fz : List (Nat × Option Blk)) : AV → Option PV
 | .pv p => some p
 | .ls id => match look id fz with
  | some (.row _ sz rows) => some (.vs sz rows)
  | some (.dict P t n m) => some (.mpv P t m)
  | _ => none
 | .lp id off => match look id fz with
  | some (.box _ cells) => match pvs cells with
   | some ps => bif ps.all PV.one then some (.vp (ps.drop off)) else none
   | none => none
  | _ => none
 | .cs sz rows => some (.vs sz rows)
 | .fn f caps => match viewL fz caps with
  | some ps => some (.fn f ps)
  | none => none
 | .agg cs => match viewL fz cs with
  | some ps => bif ps.all PV.one then some (.agg ps) else none
  | none => none
 | _ => none
where viewL (fz : List (Nat × Option Blk)) : List AV → Option (List PV)
 | [] => some []
 | .pv p :: l => match viewL fz l with
  | some ps => some (p :: ps)
  | none => none
 | .ls id :: l => match look id fz, viewL fz l with
  | some (.row _ sz rows), some ps => some (.vs sz rows :: ps)
  | some (.dict P t n m), some ps => some (.mpv P t m :: ps)
  | _, _ => none
 | .lp id off :: l => match look id fz, viewL fz l with
  | some (.box _ cells), some ps => match pvs cells with
   | some qs => bif qs.all PV.one then some (.vp (qs.drop off) :: ps) else none
   | none => none
  | _, _ => none
 | _ :: _ => none
section
variable {fz : List (Nat × Option Blk)} {O O2 : Nat → Prop} {θ : Nat → Option Value} {a : Act} {w : World}
theorem view_ls (hs : SimAt c s O θ a w) (hfz : ∀ id b, look id fz = some b → look id s.hp = some b) (hO2 : ∀ g, O2 g → O g) (hfree : ∀ id b u g, look id fz = some b → θ id = some u → blkOf u = some g → ¬ O2 g)
  {id : Nat} {u : Value} {e sz : Nat} {rows : List (List PV)} (h : θ id = some u) (hl : look id fz = some (.row e sz rows)) : Rd w O2 (.vs sz rows) u := by
 obtain ⟨v', hv', ⟨us, hown, hrd⟩, hO⟩ := hs.hp id _ (hfz _ _ hl)
 rw [h] at hv'; cases hv'
 have hrd' : RowsRd w O2 sz rows us := hrd.mono (Nat.le_refl _) (fun b _ hn => ⟨fun h2 => hn (hO2 b h2), rfl⟩)
 rcases hown.2 with ⟨rfl, h4⟩ | ⟨g, cap, cur, rfl, _, hg, hnc, hcm, hcs, ht⟩
 ·have : rows = [] := List.eq_nil_of_length_eq_zero h4
  subst this
  exact .vs0 sz
 ·exact rd_vs_of_rows hrd' hg ht (hfree id _ _ g hl h rfl) hnc hcm
theorem view_dict (hs : SimAt c s O θ a w) (hfz : ∀ id b, look id fz = some b → look id s.hp = some b) (hO2 : ∀ g, O2 g → O g) (hfree : ∀ id b u g, look id fz = some b → θ id = some u → blkOf u = some g → ¬ O2 g)
  {id : Nat} {u : Value} {P : Program} {t n : Nat} {m : List UInt8 → Option Int} (h : θ id = some u) (hl : look id fz = some (.dict P t n m)) : Rd w O2 (.mpv P t m) u := by
 obtain ⟨v', hv', ⟨b, rfl, hm⟩, hO⟩ := hs.hp id _ (hfz _ _ hl)
 rw [h] at hv'; cases hv'
 exact .mpv P t n m b (hfree id _ _ b hl h rfl) (hO b rfl).2.1 hm
theorem view_lp (hs : SimAt c s O θ a w) (hfz : ∀ id b, look id fz = some b → look id s.hp = some b) (hO2 : ∀ g, O2 g → O g) (hfree : ∀ id b u g, look id fz = some b → θ id = some u → blkOf u = some g → ¬ O2 g)
  {id off g : Nat} {t : Nat} {cells : List AV} {ps : List PV} (h : θ id = some (.pointer (some ⟨g, 0, none⟩))) (hl : look id fz = some (.box t cells)) (hps : pvs cells = some ps) (hone : ps.all PV.one = true) : Rd w O2 (.vp (ps.drop off)) (.pointer (some ⟨g, off, none⟩)) := by
 obtain ⟨v', hv', ⟨g', us, he, h1, h2, h3⟩, hO⟩ := hs.hp id _ (hfz _ _ hl)
 rw [h] at hv'; cases hv'
 cases he
 have hc := pvs_spec hps
 have hgl : g < w.heap.size := (hO g rfl).2.1
 have hlen : us.size = ps.length := by rw [h2, hc]; simp
 refine .vp _ g off (fun k => us.getD (off + k) undef) (hfree id _ _ g hl h rfl) hgl (fun x hx => List.all_eq_true.1 hone x (List.mem_of_mem_drop hx)) (fun k hk => ?_) (fun j x hj => ?_)
 ·rw [List.length_drop] at hk
  rw [cell_of_row w g _ us t (0, 0) h1]
  have : off + k < us.size := by omega
  simp [this]
 ·rw [List.getElem?_drop] at hj
  have hlt : off + j < us.size := by rw [hlen]; exact (List.getElem?_eq_some_iff.1 hj).1
  have hu : us[off + j]? = some us[off + j] := by simp [hlt]
  have := (h3 (off + j) (.pv x) _ (by rw [hc, List.getElem?_map, hj]; rfl) hu).1
  have e : us.getD (off + j) undef = us[off + j] := by simp [hlt]
  show Rd w O2 x (us.getD (off + j) undef)
  rw [e]
  exact (rda_pv this).mono (Nat.le_refl _) (fun b _ hn => ⟨fun h2 => hn (hO2 b h2), rfl⟩)
theorem viewL_ok (hs : SimAt c s O θ a w) (hfz : ∀ id b, look id fz = some b → look id s.hp = some b) (hO2 : ∀ g, O2 g → O g) (hfree : ∀ id b u g, look id fz = some b → θ id = some u → blkOf u = some g → ¬ O2 g) :
  ∀ {l : List AV} {ps : List PV}, viewPV.viewL fz l = some ps → l.length = ps.length ∧ ∀ (i : Nat) (x : AV) (p : PV) (u : Value), l[i]? = some x → ps[i]? = some p → RdA w O θ x u → Rd w O2 p u
 | [], ps, h => by simp [viewPV.viewL] at h; subst h; simp
 | .pv q :: l, ps, h => by
  simp only [viewPV.viewL] at h
  split at h
  ·rename_i qs hq
   cases h
   obtain ⟨h1, h2⟩ := viewL_ok hs hfz hO2 hfree hq
   refine ⟨by simp [h1], fun i x p u hx hp hr => ?_⟩
   cases i with
   | zero => simp at hx hp; subst hx; subst hp; exact (rda_pv hr).mono (Nat.le_refl _) (fun b _ hn => ⟨fun h2 => hn (hO2 b h2), rfl⟩)
   | succ i => exact h2 i x p u (by simpa using hx) (by simpa using hp) hr
  ·cases h
 | .ls id :: l, ps, h => by
  simp only [viewPV.viewL] at h
  split at h
  ·rename_i e sz rows qs hl hq
   cases h
   obtain ⟨h1, h2⟩ := viewL_ok hs hfz hO2 hfree hq
   refine ⟨by simp [h1], fun i x p u hx hp hr => ?_⟩
   cases i with
   | zero =>
    simp at hx hp; subst hx; subst hp
    cases hr with | ls _ _ h => exact view_ls hs hfz hO2 hfree h hl
   | succ i => exact h2 i x p u (by simpa using hx) (by simpa using hp) hr
  ·rename_i P t n m qs hl hq
   cases h
   obtain ⟨h1, h2⟩ := viewL_ok hs hfz hO2 hfree hq
   refine ⟨by simp [h1], fun i x p u hx hp hr => ?_⟩
   cases i with
   | zero =>
    simp at hx hp; subst hx; subst hp
    cases hr with | ls _ _ h => exact view_dict hs hfz hO2 hfree h hl
   | succ i => exact h2 i x p u (by simpa using hx) (by simpa using hp) hr
  ·cases h
 | .lp id off :: l, ps, h => by
  simp only [viewPV.viewL] at h
  split at h
  ·rename_i t cells qs hl hq
   split at h
   ·rename_i rs hrs
    simp only [cond_eq_ite] at h
    split at h
    ·rename_i hone
     cases h
     obtain ⟨h1, h2⟩ := viewL_ok hs hfz hO2 hfree hq
     refine ⟨by simp [h1], fun i x p u hx hp hr => ?_⟩
     cases i with
     | zero =>
      simp at hx hp; subst hx; subst hp
      cases hr with | lp _ _ g h => exact view_lp hs hfz hO2 hfree h hl hrs hone
     | succ i => exact h2 i x p u (by simpa using hx) (by simpa using hp) hr
    ·cases h
   ·cases h
  ·cases h
 | .le _ _ _ _ :: _, _, h | .cs _ _ :: _, _, h | .ra _ _ :: _, _, h | .aw _ _ _ :: _, _, h | .sp _ _ _ :: _, _, h | .bp _ :: _, _, h | .fn _ _ :: _, _, h | .agg _ :: _, _, h | .any :: _, _, h | .tup _ :: _, _, h => by simp [viewPV.viewL] at h
theorem view_ok (hs : SimAt c s O θ a w) (hfz : ∀ id b, look id fz = some b → look id s.hp = some b) (hO2 : ∀ g, O2 g → O g) (hfree : ∀ id b u g, look id fz = some b → θ id = some u → blkOf u = some g → ¬ O2 g)
  {x : AV} {p : PV} {u : Value} (h : viewPV fz x = some p) (hr : RdA w O θ x u) : Rd w O2 p u := by
 cases x with
 | pv q => simp only [viewPV, Option.some.injEq] at h; subst h; exact (rda_pv hr).mono (Nat.le_refl _) (fun b _ hn => ⟨fun h2 => hn (hO2 b h2), rfl⟩)
 | ra id m => simp [viewPV] at h
 | aw id off n => simp [viewPV] at h
 | sp id sz r => simp [viewPV] at h
 | bp id => simp [viewPV] at h
 | any => simp [viewPV] at h
 | cs sz rows => simp only [viewPV, Option.some.injEq] at h; subst h; cases hr with | cs _ _ _ h _ => exact h.mono (Nat.le_refl _) (fun b _ hn => ⟨fun h2 => hn (hO2 b h2), rfl⟩)
 | ls id =>
  simp only [viewPV] at h
  split at h
  ·rename_i hl; cases h
   cases hr with | ls _ _ h => exact view_ls hs hfz hO2 hfree h hl
  ·rename_i hl; cases h
   cases hr with | ls _ _ h => exact view_dict hs hfz hO2 hfree h hl
  ·cases h
 | lp id off =>
  simp only [viewPV] at h
  split at h
  ·rename_i hl
   split at h
   ·rename_i hrs
    simp only [cond_eq_ite] at h
    split at h
    ·rename_i hone
     cases h
     cases hr with | lp _ _ g h => exact view_lp hs hfz hO2 hfree h hl hrs hone
    ·cases h
   ·cases h
  ·cases h
 | fn f caps =>
  simp only [viewPV] at h
  split at h
  ·rename_i ps hps
   cases h
   obtain ⟨h1, h2⟩ := viewL_ok hs hfz hO2 hfree hps
   cases hr with
   | fn _ _ us hn hh =>
    refine .fn f ps us (by rw [hn, h1]) fun i q u hq hu => ?_
    have hi : i < caps.length := by rw [h1]; exact (List.getElem?_eq_some_iff.1 hq).1
    exact h2 i caps[i] q u (List.getElem?_eq_getElem hi) hq (hh i _ u (List.getElem?_eq_getElem hi) hu)
  ·cases h
 | le => simp [viewPV] at h
 | tup => simp [viewPV] at h
 | agg cs =>
  simp only [viewPV] at h
  split at h
  ·rename_i ps hps
   simp only [cond_eq_ite] at h
   split at h
   ·rename_i hone
    cases h
    obtain ⟨h1, h2⟩ := viewL_ok hs hfz hO2 hfree hps
    cases hr with
    | agg _ us hn h1c hh =>
     refine .agg ps us (by rw [hn, h1]) (fun x hx => List.all_eq_true.1 hone x hx) fun i q u hq hu => ?_
     have hi : i < cs.length := by rw [h1]; exact (List.getElem?_eq_some_iff.1 hq).1
     exact h2 i cs[i] q u (List.getElem?_eq_getElem hi) hq (hh i _ u (List.getElem?_eq_getElem hi) hu)
   ·cases h
  ·cases h
end
def St.freeze (s : St) (fz : List (Nat × Option Blk)) (new : List (Nat × Option AV)) : St := { s with fr := new ++ s.fr, hp := fz.map (fun x => (x.1, none)) ++ s.hp }
def FzF (s : St) (fz : List (Nat × Option Blk)) : List (Nat × Option AV) → Prop
 | [] => True
 | (t, some (.pv p)) :: l => (∃ x, look t s.fr = some x ∧ viewPV fz x = some p) ∧ FzF s fz l
 | (t, some (.tup ys)) :: l => (∃ xs, look t s.fr = some (.tup xs) ∧ viewTup fz xs ys) ∧ FzF s fz l
 | _ :: _ => False
where viewTup (fz : List (Nat × Option Blk)) : List AV → List AV → Prop
 | [], [] => True
 | x :: xs, .pv p :: ys => viewPV fz x = some p ∧ viewTup fz xs ys
 | _, _ => False
theorem look_append {α : Type} (t : Nat) : ∀ (l m : List (Nat × Option α)), (∃ x, (t, x) ∈ l ∧ look t (l ++ m) = x) ∨ ((∀ x, (t, x) ∉ l) ∧ look t (l ++ m) = look t m)
 | [], m => .inr ⟨by simp, rfl⟩
 | (k, y) :: l, m => by
  simp only [List.cons_append, look_cons]
  by_cases h : k = t
  ·subst h; left; exact ⟨y, by simp, by simp⟩
  ·rw [if_neg h]
   rcases look_append t l m with ⟨x, h1, h2⟩ | ⟨h1, h2⟩
   ·exact .inl ⟨x, by simp [h1], h2⟩
   ·exact .inr ⟨fun x hx => by
     rcases List.mem_cons.1 hx with e | e
     ·cases e; exact h rfl
     ·exact h1 x e, h2⟩
theorem SimAt.frozen {O : Nat → Prop} {θ : Nat → Option Value} {a : Act} {w : World} (fz : List (Nat × Option Blk)) (new : List (Nat × Option AV)) (hfz : ∀ x ∈ fz, ∃ b, x.2 = some b ∧ look x.1 s.hp = some b) (hF : FzF s fz new) (h : SimAt c s O θ a w) :
  SimAt c (s.freeze fz new) (fun g => O g ∧ ∀ id b u, look id s.hp = some b → (id, some b) ∈ fz → θ id = some u → blkOf u ≠ some g) θ a w := by
 have hfz' : ∀ id b, look id fz = some b → look id s.hp = some b := by
  intro id b hl
  obtain ⟨b', h1, h2⟩ := hfz _ (look_mem hl)
  cases h1; exact h2
 have hO2 : ∀ g, (O g ∧ ∀ id b u, look id s.hp = some b → (id, some b) ∈ fz → θ id = some u → blkOf u ≠ some g) → O g := fun g h => h.1
 have hm : ∀ b, b < w.heap.size → ¬ O b → ¬ (O b ∧ ∀ id b' u, look id s.hp = some b' → (id, some b') ∈ fz → θ id = some u → blkOf u ≠ some b) ∧ w.heap[b]? = w.heap[b]? := fun b _ hn => ⟨fun h => hn h.1, rfl⟩
 have hfree : ∀ id b u g, look id fz = some b → θ id = some u → blkOf u = some g → ¬ (O g ∧ ∀ id b u, look id s.hp = some b → (id, some b) ∈ fz → θ id = some u → blkOf u ≠ some g) := by
  rintro id b u g h1 h2 h3 ⟨_, h4⟩
  exact h4 id b u (hfz' _ _ h1) (look_mem h1) h2 h3
 have hfr : ∀ t x, (t, some x) ∈ new → RdA w (fun g => O g ∧ ∀ id b u, look id s.hp = some b → (id, some b) ∈ fz → θ id = some u → blkOf u ≠ some g) θ x (a.tmps.getD t undef) := by
  have : ∀ (new : List (Nat × Option AV)), FzF s fz new → ∀ t x, (t, some x) ∈ new → RdA w (fun g => O g ∧ ∀ id b u, look id s.hp = some b → (id, some b) ∈ fz → θ id = some u → blkOf u ≠ some g) θ x (a.tmps.getD t undef) := by
   intro new
   induction new with
   | nil => intro _ t x hx; simp at hx
   | cons y new ih =>
    intro hF t x hx
    obtain ⟨t', y⟩ := y
    rcases y with _ | y
    ·simp [FzF] at hF
    ·cases y with
     | pv p =>
      obtain ⟨⟨z, hz1, hz2⟩, hF⟩ := hF
      rcases List.mem_cons.1 hx with e | e
      ·cases e
       exact .pv _ _ (view_ok h hfz' hO2 hfree hz2 (h.fr _ _ hz1))
      ·exact ih hF t x e
     | tup ys =>
      obtain ⟨⟨zs, hz1, hz2⟩, hF⟩ := hF
      rcases List.mem_cons.1 hx with e | e
      ·cases e
       have hr := h.fr _ _ hz1
       generalize a.tmps.getD t undef = v at hr
       cases hr with
       | tup _ us hn hh =>
        have key : ∀ (zs ys : List AV), FzF.viewTup fz zs ys → zs.length = ys.length ∧ ∀ (i : Nat) (z y : AV) (u : Value), zs[i]? = some z → ys[i]? = some y → RdA w O θ z u → RdA w (fun g => O g ∧ ∀ id b u, look id s.hp = some b → (id, some b) ∈ fz → θ id = some u → blkOf u ≠ some g) θ y u := by
         intro zs
         induction zs with
         | nil => intro ys hv; cases ys with
          | nil => exact ⟨rfl, fun i z y u hz => by simp at hz⟩
          | cons y ys => simp [FzF.viewTup] at hv
         | cons z zs ih2 =>
          intro ys hv
          cases ys with
          | nil => simp [FzF.viewTup] at hv
          | cons y ys =>
           cases y <;> first | (simp [FzF.viewTup] at hv; done) | skip
           obtain ⟨hv1, hv2⟩ := hv
           obtain ⟨g1, g2⟩ := ih2 ys hv2
           refine ⟨by simp [g1], fun i z' y' u hz hy hr => ?_⟩
           cases i with
           | zero => simp at hz hy; subst hz; subst hy; exact .pv _ _ (view_ok h hfz' hO2 hfree hv1 hr)
           | succ i => exact g2 i z' y' u (by simpa using hz) (by simpa using hy) hr
        obtain ⟨k1, k2⟩ := key zs ys hz2
        refine .tup ys us (by rw [hn, k1]) fun i y u hy hu => ?_
        have hi : i < zs.length := by rw [k1]; exact (List.getElem?_eq_some_iff.1 hy).1
        exact k2 i zs[i] y u (List.getElem?_eq_getElem hi) hy (hh i _ u (List.getElem?_eq_getElem hi) hu)
      ·exact ih hF t x e
     | _ => simp [FzF] at hF
  exact this new hF
 have hhp : ∀ id b, look id (s.freeze fz new).hp = some b → look id s.hp = some b ∧ ∀ b', (id, some b') ∉ fz := by
  intro id b hb
  simp only [St.freeze] at hb
  rcases look_append id (fz.map fun x => (x.1, (none : Option Blk))) s.hp with ⟨x, h1, h2⟩ | ⟨h1, h2⟩
  ·obtain ⟨y, hy, e⟩ := List.mem_map.1 h1
   rw [h2] at hb
   subst hb
   cases e
  ·rw [h2] at hb
   exact ⟨hb, fun b' hb' => h1 none (List.mem_map.2 ⟨_, hb', rfl⟩)⟩
 refine ⟨h.size, h.df, ?_, ?_, ?_, h.dom, h.flt, h.one, fun g hg => h.olt g hg.1, h.ext, ?_, h.xlt, h.llt, ?_, fun g hg => h.oc g hg.1, h.kp, ?_⟩
 ·intro t x hx
  simp only [St.freeze] at hx
  rcases look_append t new s.fr with ⟨y, h1, h2⟩ | ⟨h1, h2⟩
  ·rw [h2] at hx; subst hx
   exact hfr t x h1
  ·rw [h2] at hx
   exact (h.fr t x hx).mono (Nat.le_refl _) hm (fun _ _ e => e)
 ·intro id b hb
  obtain ⟨h1, h2⟩ := hhp id b hb
  obtain ⟨v, hv, hbo, hg⟩ := h.hp id b h1
  refine ⟨v, hv, hbo.mono (Nat.le_refl _) hm (fun _ _ e => e) (fun _ _ => rfl), fun g hgg => ?_⟩
  obtain ⟨g1, g2, g3⟩ := hg g hgg
  refine ⟨⟨g1, fun id' b' u h3 h4 h5 h6 => ?_⟩, g2, g3⟩
  have := h.inj id id' b b' v u g h1 h3 hv h5 hgg h6
  subst this
  exact h2 b' h4
 ·intro i j bi bj vi vj g hi hj
  exact h.inj i j bi bj vi vj g (hhp i bi hi).1 (hhp j bj hj).1
 ·intro g hx
  refine ⟨h.xo g hx, fun id b u h3 h4 h5 h6 => ?_⟩
  obtain ⟨v, hv, _, hg⟩ := h.hp id b h3
  rw [h5] at hv; cases hv
  exact (hg g h6).2.2.2 hx
 ·intro d hd
  obtain ⟨D, h1, h2, h3, h4⟩ := h.marks d hd
  refine ⟨D, h1, h2, ⟨h3, fun id b u k1 _ k3 k4 => ?_⟩, h4⟩
  obtain ⟨v, hv, hbo, _⟩ := h.hp id b k1
  rw [k3] at hv; cases hv
  obtain ⟨_, hh, ho⟩ := hbo.cells k4
  rw [h2] at hh; cases hh; cases ho
 ·refine c.Jst h.jn ⟨rfl, rfl, rfl, Nat.le_refl _, fun _ _ _ => rfl, fun g h => .inl h.1, fun g h1 h2 => ⟨h1, fun id b u h3 _ h5 h6 => h2 (.inr (.inl ⟨id, b, u, h3, h5, h6⟩))⟩, fun g hg => h.olt g hg.1, fun g hI => .inl ?_⟩
  rcases hI with hI | ⟨id, b, v, h1, h2, h3⟩ | hI
  ·exact .inl hI
  ·exact .inr (.inl ⟨id, b, v, (hhp id b h1).1, h2, h3⟩)
  ·exact .inr (.inr hI)
theorem imp_freeze (fz : List (Nat × Option Blk)) (new : List (Nat × Option AV)) (hfz : ∀ x ∈ fz, ∃ b, x.2 = some b ∧ look x.1 s.hp = some b) (hF : FzF s fz new) : Imp c s (s.freeze fz new) := by
 rintro a w ⟨O, θ, h⟩
 exact ⟨_, θ, h.frozen fz new hfz hF⟩
theorem imp_freeze_in (fz : List (Nat × Option Blk)) (new : List (Nat × Option AV)) (bid off id : Nat) {T e sz : Nat} {rows : List (List PV)} {cells : List AV} (hfz : ∀ x ∈ fz, ∃ b, x.2 = some b ∧ look x.1 s.hp = some b) (hF : FzF s fz new)
  (hb : look bid (s.freeze fz new).hp = some (.box T cells)) (hc : cells[off]? = some (.ls id)) (hid : look id fz = some (.row e sz rows)) : Imp c s ((s.freeze fz new).setBlk bid (some (.box T (cells.set off (.pv (.vs sz rows)))))) := by
 rintro a w ⟨O, θ, h⟩
 have h' := h.frozen fz new hfz hF
 have hfz' : ∀ id b, look id fz = some b → look id s.hp = some b := by
  intro id b hl
  obtain ⟨b', h1, h2⟩ := hfz _ (look_mem hl)
  cases h1; exact h2
 refine ⟨(fun g => O g ∧ ∀ id b u, look id s.hp = some b → (id, some b) ∈ fz → θ id = some u → blkOf u ≠ some g), θ, ?_⟩
 obtain ⟨v, hv, ⟨g, us, rfl, k1, k2, k3⟩, k4⟩ := h'.hp bid _ hb
 refine h'.upd hb hv (World.grownBy.refl w _) ⟨g, us, rfl, k1, by simpa using k2, fun j x u hx hu => ?_⟩
 rw [List.getElem?_set] at hx
 split at hx
 ·rename_i e; subst e
  split at hx
  ·cases hx
   obtain ⟨m1, m2⟩ := k3 off _ u hc hu
   cases m1 with
   | ls _ _ m1 =>
    refine ⟨.pv _ _ (view_ls h hfz' (fun _ h => h.1) ?_ m1 hid), m2⟩
    rintro id b u g h1 h2 h3 ⟨_, h4⟩
    exact h4 id b u (hfz' _ _ h1) (look_mem h1) h2 h3
  ·cases hx
 ·exact k3 j x u hx hu
end
end Go.Abs

namespace Go.Abs
variable {G : List (Nat × List PV)}
open Go.RowKit
inductive Res where
 | p (p : PV)
 | own (e sz : Nat) (rows : List (List PV))
 | clo (f : Nat) (pre : List PV) (t : TypeId) (cells : List PV) (post : List PV)
def ResOk (w : World) (O : Nat → Prop) (lo : Nat) : Res → Value → Prop
 | .p p, v => Rd w O p v
 | .own e sz rows, v => BlkOk w O (fun _ => none) v (.row e sz rows) ∧ v.oneCell' = true ∧ ∀ g, blkOf v = some g → lo ≤ g ∧ g < w.heap.size ∧ O g
 | .clo f pre t cells post, v => ∃ us : Array Value, v = .func (.func f) #[] us ∧ us.size = pre.length + 1 + post.length ∧ (∀ (i : Nat) (p : PV) (u : Value), pre[i]? = some p → us[i]? = some u → Rd w O p u) ∧
   (∀ (i : Nat) (p : PV) (u : Value), post[i]? = some p → us[pre.length + 1 + i]? = some u → Rd w O p u) ∧
   ∃ g, us[pre.length]? = some (.pointer (some ⟨g, 0, none⟩)) ∧ BlkOk w O (fun _ => none) (.pointer (some ⟨g, 0, none⟩)) (.box t (cells.map .pv)) ∧ lo ≤ g ∧ g < w.heap.size ∧ O g
def RetOk (w : World) (O : Nat → Prop) (lo : Nat) (rs : List Res) (v : Value) : Prop :=
 match rs with
 | [r] => ResOk w O lo r v
 | rs => ∃ us : Array Value, v = .tuple us ∧ us.size = rs.length ∧ ∀ (i : Nat) (r : Res) (u : Value), rs[i]? = some r → us[i]? = some u → ResOk w O lo r u
def Fn (G : List (Nat × List PV)) (P : Program) (f : FuncId) (args : List PV) (rs : List Res) : Prop :=
 ∀ (w : World) (O : Nat → Prop) (vs : Array Value), (∀ g, O g → g < w.heap.size) → GlobOk G w O → vs.size = args.length →
  (∀ (i : Nat) (p : PV) (v : Value), args[i]? = some p → vs[i]? = some v → Rd w O p v) →
  Calls P f vs w fun e w' => ∃ v O', e = .returned v ∧ w.grownBy w' none ∧ (∀ g, O g → O' g) ∧ RetOk w' O' w.heap.size rs v
def Fn.cx (w : World) (O : Nat → Prop) : Cx G := { w0 := w, L := fun _ => False, X := O, K := fun _ => False, J := fun _ O _ w => GlobOk G w O, Jst := fun h s => h.stp s, JG := fun h => h, KX := fun _ h => h.elim, t0 := #[] }
def FnPost (P : Program) (fn : Func) (w : World) (O : Nat → Prop) (rs : List Res) : Exit → Act → World → Prop :=
 bodyPostM (FF none) 0 P fn fun e w' => ∃ v O', e = .returned v ∧ w.grownBy w' none ∧ (∀ g, O g → O' g) ∧ RetOk w' O' w.heap.size rs v
def argsFr : Nat → List PV → List (Nat × Option AV)
 | _, [] => []
 | i, p :: ps => (i, some (.pv p)) :: argsFr (i + 1) ps
theorem argsFr_look : ∀ (ps : List PV) (k t : Nat) (x : AV), look t (argsFr k ps) = some x → ∃ p, x = .pv p ∧ k ≤ t ∧ ps[t - k]? = some p
 | [], k, t, x, h => by simp [argsFr, look] at h
 | p :: ps, k, t, x, h => by
  simp only [argsFr, look_cons] at h
  split at h
  ·rename_i e; subst e; cases h; exact ⟨p, rfl, Nat.le_refl _, by simp⟩
  ·obtain ⟨q, h1, h2, h3⟩ := argsFr_look ps (k + 1) t x h
   refine ⟨q, h1, by omega, ?_⟩
   rw [show t - k = (t - (k + 1)) + 1 by omega, List.getElem?_cons_succ]
   exact h3
theorem fn_of_body {P : Program} {f : FuncId} {fn : Func} {code : Code} {n : Nat} {args : List PV} {rs : List Res} (hf : P.funcs[f]? = some fn) (hb : fn.body = some code) (hn : fn.ntmps = n) (hl : Nat.ble args.length n = true)
  (h : ∀ w O, AW none P (Fn.cx (G := G) w O) code (FnPost P fn w O rs) { n := n, fr := argsFr 0 args, hp := [], next := 0 }) : Fn G P f args rs := by
 intro w O vs hO hglob hsz hrd
 refine (callsIn_wide (n := 0)).1 (callsIn_of_wp_marks (F := FF none) hf hb trivial ?_)
 have hl' : args.length ≤ n := Nat.le_of_ble_eq_true hl
 refine h w O _ w ⟨O, fun _ => none, ?_⟩
 refine ⟨by simp [hn]; omega, .nil, ?_, fun id b hb => (by simp [look] at hb), fun i j bi bj vi vj g hi => (by simp [look] at hi), fun id v hv => (by cases hv), fun k hk => (by cases hk), fun id v hv => (by cases hv), hO, ⟨rfl, rfl, rfl, Nat.le_refl _, fun _ _ _ => rfl⟩, fun g hg => hg, hO, fun g hg => hg.elim, fun d hd => (by cases hd), fun g hg _ => .inl hg, fun t ht => (by cases ht), hglob⟩
 intro t x hx
 obtain ⟨p, rfl, _, hp⟩ := argsFr_look args 0 t x hx
 have hp' : args[t]? = some p := by simpa using hp
 have ht : t < vs.size := by rw [hsz]; exact (List.getElem?_eq_some_iff.1 hp').1
 have hv : vs[t]? = some vs[t] := by simp [ht]
 have : (vs ++ Array.replicate (fn.ntmps - vs.size) undef).getD t undef = vs[t] := by
  simp [Array.getElem?_append, ht]
 rw [this]
 exact .pv _ _ (hrd t p _ hp' hv)
section
variable {ro : Option Nat} {P : Program} {c : Cx G} {s s' : St} {o : Oper} {d : Option Nat}
inductive RV (P : Program) (s : St) : ResultVar → AV → Prop
 | tmp (t : Nat) (x : AV) (h : look t s.fr = some x) : RV P s (.tmp t) x
 | one (a id off : Nat) (T t : Nat) (cells : List AV) (x : AV) (h1 : look a s.fr = some (.lp id off)) (h2 : look id s.hp = some (.box t cells)) (h3 : oneB P T = true) (h4 : cells[off]? = some x) : RV P s (.cell a T) x
 | agg (a id off : Nat) (T t n : Nat) (cells : List AV) (ps : List PV) (h1 : look a s.fr = some (.lp id off)) (h2 : look id s.hp = some (.box t cells)) (h3 : aggB P T n = true) (h4 : pvs ((cells.drop off).take n) = some ps) (h5 : ps.length = n) (h6 : (ps.all PV.one) = true) : RV P s (.cell a T) (.pv (.agg ps))
 | aggM (a id off : Nat) (T t n : Nat) (cells cs : List AV) (h1 : look a s.fr = some (.lp id off)) (h2 : look id s.hp = some (.box t cells)) (h3 : aggB P T n = true) (h4 : (cells.drop off).take n = cs) (h5 : cs.length = n) : RV P s (.cell a T) (.agg cs)
def rvRun : ResultVar → Array Value → Sem Value
 | .tmp t, tmps => pure (tmps.getD t undef)
 | .cell a t, tmps => do loadVar t (← asAddr (tmps.getD a undef))
theorem RV.run {rv : ResultVar} {x : AV} (h : RV P s rv x) {O : Nat → Prop} {θ : Nat → Option Value} {a : Act} {w : World} (hs : SimAt c s O θ a w) : ∃ v, (rvRun rv a.tmps).run P w = .ok v w ∧ RdA w O θ x v := by
 cases h with
 | tmp t _ h => exact ⟨_, by simp [rvRun], hs.fr _ _ h⟩
 | one ad id off T t cells _ h1 h2 h3 h4 =>
  -- by the rule for a load, over a frame that holds just this
  have hr := hs.fr _ _ h1
  generalize hv : a.tmps.getD ad undef = u at hr
  cases hr with
  | lp _ _ g h =>
   obtain ⟨v', hv', ⟨g', us, he, k1, k2, k3⟩, _⟩ := hs.hp id _ h2
   rw [h] at hv'; cases hv'
   cases he
   have hk : off < us.size := by rw [k2]; exact (List.getElem?_eq_some_iff.1 h4).1
   have hu : us[off]? = some us[off] := by simp [hk]
   have := run_loadAt_one (P := P) h3 w ⟨g, off, none⟩ us[off] (by rw [cell_of_row w g off us t (0, 0) k1]; exact hu)
   refine ⟨us[off], ?_, (k3 off x _ h4 hu).1⟩
   simp only [rvRun, hv, asAddr, Sem.run_bind, Sem.run_pure, Result.andThen_ok]
   simpa [Instr.loadAt, Instr.sureAddr] using this
 | aggM ad id off T t n cells cs h1 h2 h3 h4 h5 =>
  have hr := hs.fr _ _ h1
  generalize hv : a.tmps.getD ad undef = u at hr
  cases hr with
  | lp _ _ g h =>
   obtain ⟨v', hv', ⟨g', us, he, k1, k2, k3⟩, _⟩ := hs.hp id _ h2
   rw [h] at hv'; cases hv'
   cases he
   have hlen : off + n ≤ us.size ∨ n = 0 := by
    have : ((cells.drop off).take n).length = n := by rw [h4]; exact h5
    rw [List.length_take, List.length_drop, ← k2] at this
    omega
   have hcell : ∀ (j : Nat) (u : Value), ((us.toList.drop off).take n)[j]? = some u → j < n ∧ us[off + j]? = some u := by
    intro j u hu
    rw [List.getElem?_take] at hu
    split at hu
    ·rename_i hj
     rw [List.getElem?_drop] at hu
     exact ⟨hj, by simpa using hu⟩
    ·cases hu
   have hrun := run_loadAt_agg (P := P) h3 w ⟨g, off, none⟩ ((us.toList.drop off).take n) (by simp; omega) (fun j u hu => by
    rw [Addr.add_lit, cell_of_row w g _ us t (0, 0) k1]
    exact (hcell j u hu).2)
   refine ⟨.agg ((us.toList.drop off).take n).toArray, ?_, .agg _ _ (by simp; omega) (fun j u hu => ?_) (fun j c u hc hu => ?_)⟩
   ·simp only [rvRun, hv, asAddr, Sem.run_bind, Sem.run_pure, Result.andThen_ok]
    simpa [Instr.loadAt, Instr.sureAddr] using hrun
   ·obtain ⟨hj, hu'⟩ := hcell j u (by simpa using hu)
    have hlt : off + j < cells.length := by rw [← k2]; exact (Array.getElem?_eq_some_iff.1 hu').1
    exact (k3 (off + j) cells[off + j] u (List.getElem?_eq_getElem hlt) hu').2
   ·obtain ⟨hj, hu'⟩ := hcell j u (by simpa using hu)
    rw [← h4, List.getElem?_take, if_pos hj, List.getElem?_drop] at hc
    exact (k3 (off + j) c u hc hu').1
 | agg ad id off T t n cells ps h1 h2 h3 h4 h5 h6 =>
  have hr := hs.fr _ _ h1
  generalize hv : a.tmps.getD ad undef = u at hr
  cases hr with
  | lp _ _ g h =>
   obtain ⟨v', hv', ⟨g', us, he, k1, k2, k3⟩, _⟩ := hs.hp id _ h2
   rw [h] at hv'; cases hv'
   cases he
   have hc' := pvs_spec h4
   have hps : ∀ j p, ps[j]? = some p → j < n ∧ cells[off + j]? = some (.pv p) := by
    intro j p hj
    have hjn : j < n := by have := (List.getElem?_eq_some_iff.1 hj).1; omega
    refine ⟨hjn, ?_⟩
    have : ((cells.drop off).take n)[j]? = some (.pv p) := by rw [hc', List.getElem?_map, hj]; rfl
    rw [List.getElem?_take, if_pos hjn, List.getElem?_drop] at this
    exact this
   have hlen : off + n ≤ us.size ∨ n = 0 := by
    rcases Nat.eq_zero_or_pos n with h0 | h0
    ·exact .inr h0
    ·left
     obtain ⟨p, hp⟩ : ∃ p, ps[n - 1]? = some p := ⟨ps[n - 1]'(by omega), List.getElem?_eq_getElem (by omega)⟩
     have := (List.getElem?_eq_some_iff.1 (hps _ p hp).2).1
     omega
   have hrun := run_loadAt_agg (P := P) h3 w ⟨g, off, none⟩ ((us.toList.drop off).take n) (by simp; omega) (fun j u hu => by
    rw [List.getElem?_take] at hu
    split at hu
    ·rw [List.getElem?_drop] at hu
     rw [Addr.add_lit, cell_of_row w g _ us t (0, 0) k1]
     simpa using hu
    ·cases hu)
   refine ⟨.agg ((us.toList.drop off).take n).toArray, ?_, .pv _ _ (.agg _ _ (by simp; omega) (by simpa using h6) ?_)⟩
   ·simp only [rvRun, hv, asAddr, Sem.run_bind, Sem.run_pure, Result.andThen_ok]
    simpa [Instr.loadAt, Instr.sureAddr] using hrun
   ·intro j p u hp hu
    obtain ⟨hjn, hcj⟩ := hps j p hp
    have hu' : us[off + j]? = some u := by
     simp only [List.getElem?_toArray, List.getElem?_take, if_pos hjn, List.getElem?_drop] at hu
     simpa using hu
    exact rda_pv (k3 (off + j) _ u hcj hu').1
inductive AR (c : Cx G) (s : St) : AV → Res → Prop
 | p (p : PV) : AR c s (.pv p) (.p p)
 | own (id e sz : Nat) (rows : List (List PV)) (h : look id s.hp = some (.row e sz rows)) (hl : ∀ g, ¬ c.L g) : AR c s (.ls id) (.own e sz rows)
 | clo (f : Nat) (pre post : List PV) (id t : Nat) (cells : List PV) (h : look id s.hp = some (.box t (cells.map .pv))) (hl : ∀ g, ¬ c.L g) : AR c s (.fn f (pre.map .pv ++ (.lp id 0 :: post.map .pv))) (.clo f pre t cells post)
theorem AR.ok {x : AV} {r : Res} (h : AR c s x r) {O : Nat → Prop} {θ : Nat → Option Value} {a : Act} {w : World} (hs : SimAt c s O θ a w) {v : Value} (hv : RdA w O θ x v) : ResOk w O c.w0.heap.size r v := by
 cases h with
 | p p => exact rda_pv hv
 | own id e sz rows h hl =>
  cases hv with
  | ls _ _ hv =>
   obtain ⟨v', hv', hb, hg⟩ := hs.hp id _ h
   rw [hv] at hv'; cases hv'
   refine ⟨hb, hs.one _ _ hv, fun g hgg => ?_⟩
   obtain ⟨g1, g2, g3, g4⟩ := hg g hgg
   exact ⟨g3 (hl g), g2, g1⟩
 | clo f pre post id t cells h hl =>
  cases hv with
  | fn _ _ us hn hh =>
   obtain ⟨v', hv', hb, hg⟩ := hs.hp id _ h
   obtain ⟨g, us', rfl, b1, b2, b3⟩ := hb
   obtain ⟨g1, g2, g3, g4⟩ := hg g rfl
   have hlen : us.size = pre.length + 1 + post.length := by rw [hn]; simp; omega
   have hu : us[pre.length]? = some us[pre.length] := by simp
   have hm := hh pre.length (.lp id 0) _ (by simp) hu
   generalize us[pre.length] = up at hm hu
   cases hm with
   | lp _ _ g' hm =>
    rw [hv'] at hm; cases hm
    refine ⟨us, rfl, hlen, fun i p u hp hu => ?_, fun i p u hp hu => ?_, g, hu, ⟨g, us', rfl, b1, b2, fun j x u hx hu => ?_⟩, g3 (hl g), g2, g1⟩
    ·have hi : i < pre.length := (List.getElem?_eq_some_iff.1 hp).1
     exact rda_pv (hh i (.pv p) u (by rw [List.getElem?_append_left (by simpa using hi), List.getElem?_map, hp]; rfl) hu)
    ·refine rda_pv (hh _ (.pv p) u ?_ hu)
     rw [List.getElem?_append_right (by simp; omega)]
     simp only [List.length_map]
     rw [show pre.length + 1 + i - pre.length = i + 1 by omega, List.getElem?_cons_succ, List.getElem?_map, hp]; rfl
    ·have := b3 j x u hx hu
     simp only [List.getElem?_map, Option.map_eq_some_iff] at hx
     obtain ⟨q, hq, rfl⟩ := hx
     exact ⟨.pv _ _ (rda_pv this.1), this.2⟩
inductive RVs (P : Program) (c : Cx G) (s : St) : List ResultVar → List Res → Prop
 | nil : RVs P c s [] []
 | cons (rv : ResultVar) (x : AV) (r : Res) (rvs : List ResultVar) (rs : List Res) (h1 : RV P s rv x) (h2 : AR c s x r) (h3 : RVs P c s rvs rs) : RVs P c s (rv :: rvs) (r :: rs)
theorem RVs.run {rvs : List ResultVar} {rs : List Res} (h : RVs P c s rvs rs) {O : Nat → Prop} {θ : Nat → Option Value} {a : Act} {w : World} (hs : SimAt c s O θ a w) :
  ∃ us : List Value, (rvs.mapM fun rv => rvRun rv a.tmps).run P w = .ok us w ∧ us.length = rs.length ∧ ∀ (i : Nat) (r : Res) (u : Value), rs[i]? = some r → us[i]? = some u → ResOk w O c.w0.heap.size r u := by
 induction h with
 | nil => exact ⟨[], by simp, rfl, by simp⟩
 | cons rv x r rvs rs h1 h2 h3 ih =>
  obtain ⟨us, i1, i2, i3⟩ := ih
  obtain ⟨v, e1, e2⟩ := h1.run hs
  refine ⟨v :: us, by simp [List.mapM_cons, Sem.run_bind, e1, i1], by simp [i2], fun i r' u hr hu => ?_⟩
  cases i with
  | zero => simp at hr hu; subst hr; subst hu; exact h2.ok hs e2
  | succ i => exact i3 i r' u (by simpa using hr) (by simpa using hu)
theorem run_results {fn : Func} {rvs : List ResultVar} (hr : fn.results = rvs.toArray) {us : List Value} {tmps : Array Value} {w : World} (h : (rvs.mapM fun rv => rvRun rv tmps).run P w = .ok us w) :
  (results fn tmps).run P w = .ok (match us with | [v] => v | us => .tuple us.toArray) w := by
 have hm : (fn.results.mapM fun rv => rvRun rv tmps).run P w = .ok us.toArray w := by
  rw [hr, List.mapM_toArray]
  simp only [Sem.run_map, h]
  rfl
 have e : results fn tmps = (do let vs ← fn.results.mapM (fun rv => rvRun rv tmps); pure (if h : vs.size = 1 then vs[0] else .tuple vs)) := by
  have : (fun rv => rvRun rv tmps) = (fun rv => match rv with | .tmp t => pure (tmps.getD t undef) | .cell a t => do loadVar t (← asAddr (tmps.getD a undef))) := by
   funext rv; cases rv <;> rfl
  rw [this]; rfl
 rw [e, Sem.run_bind, hm]
 simp only [Result.andThen_ok, Sem.run_pure]
 match us with
 | [] => rfl
 | [v] => rfl
 | v :: v' :: us => simp
theorem cell_shut {w : World} {D : Nat} {ds : Option (List Deferred)} (hD : w.heap[D]? = some (.deferred ds)) (off : Nat) : w.cell? ⟨D, off, none⟩ = none := by simp [World.cell?, hD]
theorem Rd.shut {w : World} {O : Nat → Prop} {D : Nat} {ds : Option (List Deferred)} {ob : Obj} (hD : w.heap[D]? = some (.deferred ds)) : ∀ {p : PV} {v : Value}, Rd w O p v → Rd (w.putObj D ob) O p v := by
 have hc : ∀ b off u, w.cell? ⟨b, off, none⟩ = some u → (w.putObj D ob).cell? ⟨b, off, none⟩ = some u := by
  intro b off u h
  have hne : b ≠ D := by rintro rfl; rw [cell_shut hD] at h; cases h
  rw [← h]
  exact World.cell?_of_block (a := ⟨b, off, none⟩) (World.putObj_heap_other hne)
 intro p v h
 induction h with
 | int k n => exact .int k n
 | bool b => exact .bool b
 | str s => exact .str s
 | agg cs us hn hone h ih => exact .agg cs us hn hone ih
 | vsz sz a cap h0 hm => exact .vsz sz a cap h0 hm
 | vs sz rows b off cap us h1 h2 h3 h4 h5 h6 h7 h8 ih => exact .vs sz rows b off cap us h1 (by simpa using h2) h3 h4 h5 h6 (fun k hk => hc _ _ _ (h7 k hk)) ih
 | vp row b off us h1 h2 h3 h4 h5 ih => exact .vp row b off us h1 (by simpa using h2) h3 (fun k hk => hc _ _ _ (h4 k hk)) ih
 | nilp => exact .nilp
 | nils => exact .nils
 | fn f caps us hn h ih => exact .fn f caps us hn ih
 | nilf => exact .nilf
 | nili => exact .nili
 | nilm => exact .nilm
 | yld l => exact .yld l
 | mpv P t n m b h1 h2 h3 => exact .mpv P t n m b h1 (by simpa using h2) (h3.of_block (World.putObj_heap_other (fun e => by subst e; obtain ⟨_, _, _, _, _, _, ⟨_, _, q, _⟩, _⟩ := h3; rw [hD] at q; cases q)))
 | mrv P t f b h1 h2 h3 => exact .mrv P t f b h1 (by simpa using h2) (h3.mono (by simp) (fun b _ hb => ⟨hb, fun k u hu => hc _ _ _ hu⟩) (World.putObj_heap_other (fun e => by subst e; obtain ⟨_, _, q, _⟩ := h3; rw [hD] at q; cases q)))
 | raw v h => exact .raw v h
theorem RdA.shut {w : World} {O : Nat → Prop} {θ : Nat → Option Value} {D : Nat} {ds : Option (List Deferred)} {ob : Obj} (hD : w.heap[D]? = some (.deferred ds)) : ∀ {x : AV} {v : Value}, RdA w O θ x v → RdA (w.putObj D ob) O θ x v := by
 intro x v h
 induction h with
 | pv p v h => exact .pv p v (h.shut hD)
 | ls id v h => exact .ls id v h
 | le id sz i off g n cap h => exact .le id sz i off g n cap h
 | lp id off g h => exact .lp id off g h
 | ra id m g n cap h h0 => exact .ra id m g n cap h h0
 | aw id off n g h => exact .aw id off n g h
 | sp id sz r v0 v h hc => exact .sp id sz r v0 v h hc
 | bp0 id => exact .bp0 id
 | any v => exact .any v
 | bp1 id g h => exact .bp1 id g h
 | cs sz rows v h hc => exact .cs sz rows v (h.shut hD) hc
 | fn f caps us hn h ih => exact .fn f caps us hn ih
 | tup xs us hn h ih => exact .tup xs us hn ih
 | agg xs us hn h1 h ih => exact .agg xs us hn h1 ih
theorem BlkOk.shut {w : World} {O : Nat → Prop} {θ : Nat → Option Value} {D : Nat} {ds : Option (List Deferred)} {ob : Obj} (hD : w.heap[D]? = some (.deferred ds)) {v : Value} {b : Blk} (hb : ∀ g, blkOf v = some g → g ≠ D) (h : BlkOk w O θ v b) : BlkOk (w.putObj D ob) O θ v b := by
 cases b with
 | row e sz rows =>
  obtain ⟨us, h1, h2⟩ := h
  exact ⟨us, ownsRow_of_block h1 (fun g hg => World.putObj_heap_other (hb g hg)), h2.len, h2.hz, h2.one, fun i j row c u q1 q2 q3 => (h2.rd i j row c u q1 q2 q3).shut hD⟩
 | box t cells =>
  obtain ⟨g, us, rfl, h1, h2, h3⟩ := h
  exact ⟨g, us, rfl, by rw [World.putObj_heap_other (hb g rfl)]; exact h1, h2, fun j c u hc hu => ⟨(h3 j c u hc hu).1.shut hD, (h3 j c u hc hu).2⟩⟩
 | dict P t n m =>
  obtain ⟨b, rfl, h4⟩ := h
  exact ⟨b, rfl, h4.of_block (World.putObj_heap_other (hb b rfl))⟩
 | dictE P t n m key id2 =>
  obtain ⟨b, st, rfl, h4, h5⟩ := h
  exact ⟨b, st, rfl, h4, h5.of_block (World.putObj_heap_other (hb b rfl))⟩
theorem SimAt.shut {O : Nat → Prop} {θ : Nat → Option Value} {a : Act} {w : World} {d : Deferred} {ds : List Deferred} (hs : SimAt c s O θ a w) (hdf : a.defers = d :: ds) : ∃ D w', d.target = .collected D ∧ (Instr.takeDeferred D).run P w = .ok [] w' ∧ SimAt c s O θ { a with defers := ds } w' := by
 obtain ⟨D, rfl, hD, hOD, hw0⟩ := hs.marks d (by rw [hdf]; simp)
 refine ⟨D, w.putObj D (.deferred none), rfl, run_takeDeferred hD, ?_⟩
 have hmnd := hs.df
 rw [hdf] at hmnd
 have hlt : D < w.heap.size := by
  rcases Nat.lt_or_ge D w.heap.size with h1 | h1
  ·exact h1
  ·rw [Array.getElem?_eq_none h1] at hD; cases hD
 refine ⟨hs.size, (List.nodup_cons.1 hmnd).2, fun t x hx => (hs.fr t x hx).shut hD, fun id b hb => ?_, hs.inj, hs.dom, hs.flt, hs.one, fun g hg => by simpa using hs.olt g hg, ⟨hs.ext.os, hs.ext.tape, hs.ext.output, by simpa using hs.ext.size, fun b hb hL => ?_⟩, hs.xo, hs.xlt, hs.llt, fun d' hd' => ?_, hs.oc, hs.kp, ?_⟩
 ·obtain ⟨v, hv, hbo, hgv⟩ := hs.hp id b hb
  exact ⟨v, hv, hbo.shut hD (fun g hg e => by obtain ⟨_, hh, ho⟩ := hbo.cells hg; rw [e, hD] at hh; cases hh; cases ho), fun g hgg => by simpa using hgv g hgg⟩
 ·rw [World.putObj_heap_other (by omega)]; exact hs.ext.block b hb hL
 ·obtain ⟨D', rfl, hD', hOD', h0⟩ := hs.marks d' (by rw [hdf]; exact List.mem_cons_of_mem _ hd')
  refine ⟨D', rfl, ?_, hOD', h0⟩
  rw [World.putObj_heap_other (fun e => ?_)]
  ·exact hD'
  ·subst e; exact (List.nodup_cons.1 hmnd).1 hd'
 ·refine c.Jst hs.jn ⟨rfl, rfl, rfl, by simp, fun b hb hI => World.putObj_heap_other (fun e => by subst e; exact hI.elim (fun h => h (.inr (.inr ⟨_, by rw [hdf]; exact List.mem_cons_self, rfl⟩))) (fun h => h hOD)), fun g h => .inl h, fun g h _ => h, fun g hg => by simpa using hs.olt g hg, fun g hI => .inl ?_⟩
  rcases hI with hI | hI | ⟨d', h1, h2⟩
  ·exact .inl hI
  ·exact .inr (.inl hI)
  ·exact .inr (.inr ⟨d', by rw [hdf]; exact List.mem_cons_of_mem _ h1, h2⟩)
theorem leaves_marks {fn : Func} {R : Ending → World → Prop} {O : Nat → Prop} {θ : Nat → Option Value} : ∀ (ds : List Deferred) (a : Act) (w : World), a.defers = ds → SimAt c s O θ a w →
  (∀ (a' : Act) (w' : World), a'.tmps = a.tmps → SimAt c s O θ a' w' → ∃ v, (results fn a.tmps).run P w' = .ok v w' ∧ R (.returned v) w') → LeavesInM (FF none) 0 P fn a.tmps R a.defers .returning w
 | [], a, w, hdf, hs, h => by
  rw [hdf]
  exact h a w rfl hs
 | d :: ds, a, w, hdf, hs, h => by
  rw [hdf]
  obtain ⟨D, w', h1, h2, h3⟩ := hs.shut (P := P) hdf
  refine ⟨by simp, .inl ⟨D, w', h1, h2, ?_⟩⟩
  exact leaves_marks (fn := fn) (R := R) ds { a with defers := ds } w' rfl h3 (fun a' w'' e2 e3 => h a' w'' e2 e3)
theorem post_ret {fn : Func} {w0 : World} {O0 : Nat → Prop} {rvs : List ResultVar} {rs : List Res} {e : Exit} (hc : c = Fn.cx w0 O0) (hr : fn.results = rvs.toArray) (h : RVs P c s rvs rs) (he : e = .ret ∨ e = .normal) : Post c (FnPost P fn w0 O0 rs) e s := by
 rintro a w ⟨O, θ, hs⟩
 have key : LeavesInM (FF none) 0 P fn a.tmps (fun e w' => ∃ v O', e = .returned v ∧ w0.grownBy w' none ∧ (∀ g, O0 g → O' g) ∧ RetOk w' O' w0.heap.size rs v) a.defers .returning w := by
  refine leaves_marks a.defers a w rfl hs fun a' w' ht hs2 => ?_
  obtain ⟨us, h1, h2, h3⟩ := h.run hs2
  rw [ht] at h1
  refine ⟨_, run_results hr h1, _, O, rfl, ?_, ?_, ?_⟩
  ·have he := hs2.ext
   subst hc
   exact ⟨he.os, he.tape, he.output, he.size, fun k hk _ => he.block k hk (fun h => h)⟩
  ·subst hc; exact hs2.xo
  ·subst hc
   match rs, us, h2, h3 with
   | [r], [u], _, h3 => exact h3 0 r u rfl rfl
   | [], [], _, h3 => exact ⟨#[], rfl, rfl, by simp⟩
   | r :: r' :: rs, u :: u' :: us, h2, h3 => exact ⟨_, rfl, by simpa using h2, fun i r u hr hu => h3 i r u hr (by simpa using hu)⟩
 rcases he with rfl | rfl
 ·exact key
 ·exact key
def callB (P : Program) (f : Nat) : Bool := match P.funcs[f]? with | some fn => fn.body.isSome && !(fn.name == "runtime.NumGoroutine") | none => false
theorem callB_spec {f : Nat} (h : callB P f = true) (args : Array Value) (w : World) : (callFunc f args).run P w = .ok (.enter f args) w := by
 unfold callB at h
 split at h
 ·rename_i fn hf
  simp only [Bool.and_eq_true, Bool.not_eq_true'] at h
  obtain ⟨h1, h2⟩ := h
  have h2' : ¬ fn.name = "runtime.NumGoroutine" := by simpa using h2
  simp [callFunc, hf, h2', Option.isSome_iff_ne_none.1 h1]
 ·cases h
def resAV (k : Nat) : Res → AV
 | .p p => .pv p
 | .own _ _ _ => .ls k
 | .clo f pre _ _ post => .fn f (pre.map .pv ++ (.lp k 0 :: post.map .pv))
def Res.isP : Res → Bool
 | .p _ => true
 | _ => false
def resTop (k : Nat) : List Res → AV
 | [r] => resAV k r
 | rs => .tup (rs.map (resAV k))
def Res.blk : Res → Option Blk
 | .p _ => none
 | .own e sz rows => some (.row e sz rows)
 | .clo _ _ t cells _ => some (.box t (cells.map .pv))
def oneOwn : List Res → Option (Option Blk)
 | [] => some none
 | .p _ :: rs => oneOwn rs
 | .own e sz rows :: rs => if rs.all Res.isP then some (some (.row e sz rows)) else none
 | .clo _ _ t cells _ :: rs => if rs.all Res.isP then some (some (.box t (cells.map .pv))) else none
def St.addRes (s : St) (kk : Nat) : Option Blk → St
 | none => s
 | some b => s.addAt kk none b
theorem isP_spec {r : Res} (h : r.isP = true) : ∃ p, r = .p p := by
 cases r with
 | p p => exact ⟨p, rfl⟩
 | _ => simp [Res.isP] at h
theorem oneOwn_none : ∀ {rs : List Res}, oneOwn rs = some none → ∀ r ∈ rs, ∃ p, r = .p p
 | [], _, r, h => by simp at h
 | .p p :: rs, h, r, hr => by
  rcases List.mem_cons.1 hr with e | e
  ·exact ⟨p, e⟩
  ·exact oneOwn_none (rs := rs) h r e
 | .own e sz rows :: rs, h, r, hr => by
  simp only [oneOwn] at h; split at h <;> cases h
 | .clo f pre t cells post :: rs, h, r, hr => by
  simp only [oneOwn] at h; split at h <;> cases h
theorem oneOwn_some : ∀ {rs : List Res} {b : Blk}, oneOwn rs = some (some b) → ∃ (i : Nat) (r0 : Res), rs[i]? = some r0 ∧ r0.blk = some b ∧ ∀ (j : Nat) (r : Res), rs[j]? = some r → j ≠ i → ∃ p, r = Res.p p
 | [], b, h => by simp [oneOwn] at h
 | .p p :: rs, b, h => by
  obtain ⟨i, r0, h1, h2, h3⟩ := oneOwn_some (rs := rs) h
  refine ⟨i + 1, r0, by simpa using h1, h2, fun j r hj hne => ?_⟩
  cases j with
  | zero => simp at hj; exact ⟨p, hj.symm⟩
  | succ j => exact h3 j r (by simpa using hj) (by omega)
 | .own e sz rows :: rs, b, h => by
  simp only [oneOwn] at h
  split at h
  ·rename_i hall
   cases h
   refine ⟨0, _, rfl, rfl, fun j r hj hne => ?_⟩
   cases j with
   | zero => exact absurd rfl hne
   | succ j => exact isP_spec (List.all_eq_true.1 hall r (List.mem_of_getElem? (by simpa using hj)))
  ·cases h
 | .clo f pre t cells post :: rs, b, h => by
  simp only [oneOwn] at h
  split at h
  ·rename_i hall
   cases h
   refine ⟨0, _, rfl, rfl, fun j r hj hne => ?_⟩
   cases j with
   | zero => exact absurd rfl hne
   | succ j => exact isP_spec (List.all_eq_true.1 hall r (List.mem_of_getElem? (by simpa using hj)))
  ·cases h
theorem ResOk.take {w : World} {O : Nat → Prop} {lo : Nat} {r : Res} {b : Blk} {u : Value} (kk : Nat) (h : ResOk w O lo r u) (hb : r.blk = some b) : ∃ vb, BlkOk w O (fun _ => none) vb b ∧ vb.oneCell' = true ∧ (∀ g, blkOf vb = some g → lo ≤ g ∧ g < w.heap.size ∧ O g) ∧
  ∀ (O2 : Nat → Prop) (θ2 : Nat → Option Value), θ2 kk = some vb → (∀ g, O2 g → O g) → RdA w O2 θ2 (resAV kk r) u := by
 cases r with
 | p p => cases hb
 | own e sz rows =>
  cases hb
  exact ⟨u, h.1, h.2.1, h.2.2, fun O2 θ2 h2 _ => .ls _ _ h2⟩
 | clo f pre t cells post =>
  cases hb
  obtain ⟨us, rfl, h1, h2, h3, g, h4, h5, h6, h7, h8⟩ := h
  refine ⟨_, h5, rfl, fun g' hg' => by cases hg'; exact ⟨h6, h7, h8⟩, fun O2 θ2 e hO => ?_⟩
  have mono : ∀ {p : PV} {v : Value}, Rd w O p v → Rd w O2 p v := fun h => h.mono (Nat.le_refl _) (fun b _ hn => ⟨fun h2 => hn (hO b h2), rfl⟩)
  refine .fn _ _ us (by simp [h1]; omega) fun i x u hx hu => ?_
  rw [List.getElem?_append] at hx
  split at hx
  ·simp only [List.getElem?_map, Option.map_eq_some_iff] at hx
   obtain ⟨p, hp, rfl⟩ := hx
   exact .pv _ _ (mono (h2 i p u hp hu))
  ·rename_i hi
   simp only [List.length_map] at hx hi
   rcases Nat.eq_or_lt_of_le (Nat.not_lt.1 hi) with e2 | e2
   ·subst e2
    simp at hx; subst hx
    rw [h4] at hu; cases hu
    exact .lp _ _ g e
   ·rw [show i - pre.length = (i - pre.length - 1) + 1 by omega, List.getElem?_cons_succ, List.getElem?_map, Option.map_eq_some_iff] at hx
    obtain ⟨p, hp, rfl⟩ := hx
    exact .pv _ _ (mono (h3 _ p u hp (by rw [show pre.length + 1 + (i - pre.length - 1) = i by omega]; exact hu)))
theorem ResOk.mono {w : World} {O O' : Nat → Prop} {lo : Nat} {p : PV} {v : Value} (h : ResOk w O lo (.p p) v) (hO : ∀ g, O' g → O g) : Rd w O' p v :=
 Rd.mono (Nat.le_refl _) (fun b _ hn => ⟨fun h2 => hn (hO b h2), rfl⟩) h
theorem sim_of_ret (kk : Nat) (hk : freshB s kk = true) {O O' : Nat → Prop} {θ : Nat → Option Value} {a : Act} {w w' : World} (hs : SimAt c s O θ a w) (hg : w.grownBy w' none) (hO : ∀ g, O g → O' g) {rs : List Res} {v : Value} (hr : RetOk w' O' w.heap.size rs v) {ob : Option Blk} (hob : oneOwn rs = some ob) :
  ∃ O2 θ2, SimAt c (s.addRes kk ob) O2 θ2 a w' ∧ RdA w' O2 θ2 (resTop kk rs) v := by
 -- the claim for the components
 have comps : ∃ us : List Value, (∀ (i : Nat) (r : Res) (u : Value), rs[i]? = some r → us[i]? = some u → ResOk w' O' w.heap.size r u) ∧ us.length = rs.length ∧
   ∀ (O2 : Nat → Prop) (θ2 : Nat → Option Value), (∀ (i : Nat) (r : Res) (u : Value), rs[i]? = some r → us[i]? = some u → RdA w' O2 θ2 (resAV kk r) u) → RdA w' O2 θ2 (resTop kk rs) v := by
  match rs, hr with
  | [r], hr =>
   refine ⟨[v], fun i r' u h1 h2 => ?_, rfl, fun O2 θ2 h => h 0 r v rfl rfl⟩
   cases i with
   | zero => simp at h1 h2; subst h1; subst h2; exact hr
   | succ i => simp at h1
  | [], ⟨us, h1, h2, h3⟩ =>
   refine ⟨us.toList, by simp, by simpa using h2, fun O2 θ2 _ => ?_⟩
   subst h1
   exact .tup [] us (by simpa using h2) (by simp)
  | r :: r' :: rs, ⟨us, h1, h2, h3⟩ =>
   refine ⟨us.toList, fun i r u hr hu => h3 i r u hr (by simpa using hu), by simpa using h2, fun O2 θ2 h => ?_⟩
   subst h1
   refine .tup _ us (by simpa using h2) fun i x u hx hu => ?_
   have hx' : ((r :: r' :: rs).map (resAV kk))[i]? = some x := hx
   rw [List.getElem?_map, Option.map_eq_some_iff] at hx'
   obtain ⟨r0, hr0, rfl⟩ := hx'
   exact h i r0 u hr0 (by simpa using hu)
 obtain ⟨us, hus, hlen, htop⟩ := comps
 cases ob with
 | none =>
  refine ⟨O, θ, hs.grownNone hg, htop O θ fun i r u h1 h2 => ?_⟩
  obtain ⟨p, rfl⟩ := oneOwn_none hob r (List.mem_of_getElem? h1)
  exact .pv _ _ ((hus i _ u h1 h2).mono hO)
 | some b =>
  obtain ⟨i, r0, h1, hb0, h3⟩ := oneOwn_some hob
  have hi : i < us.length := by rw [hlen]; exact (List.getElem?_eq_some_iff.1 h1).1
  have hu : us[i]? = some us[i] := List.getElem?_eq_getElem hi
  obtain ⟨vb, k1, k2, k3, k4⟩ := (hus i _ _ h1 hu).take kk hb0
  have hO2 : ∀ g, O g ∨ blkOf vb = some g → O' g := fun g h => h.elim (hO g) (fun h => (k3 g h).2.2)
  obtain ⟨O2, θ2, m1, m2, m3, m4⟩ := hs.addAt (w' := w') (row := none) (v := vb) (b := b) kk hk none (by simp) (fun _ => rfl) hg (fun g hgg => ⟨(k3 g hgg).2.1, .inl (k3 g hgg).1⟩) k2 (fun O2 θ2 hO2' _ =>
   k1.mono (Nat.le_refl _) (fun b _ hn => ⟨fun h2 => hn (hO2 b ((hO2' b).1 h2)), rfl⟩) (fun _ _ h => by cases h) (fun _ _ => rfl))
  refine ⟨O2, θ2, m4, htop O2 θ2 fun j r u h4 h5 => ?_⟩
  by_cases hji : j = i
  ·subst hji
   rw [h1] at h4; cases h4
   rw [hu] at h5; cases h5
   exact k4 O2 θ2 m3 (fun g hgg => hO2 g ((m1 g).1 hgg))
  ·obtain ⟨p, rfl⟩ := h3 j r h4 hji
   exact .pv _ _ ((hus j _ u h4 h5).mono fun g hgg => hO2 g ((m1 g).1 hgg))
theorem op_call (kk : Nat) (hk : freshB s kk = true) {fo : Operand} {xs : List Operand} {ts : Array TypeId} {f : Nat} {caps : List PV} {args : List PV} {rs : List Res} {ob : Option Blk} (ho : o.op = .call { callee := .value fo, args := xs.toArray, argTypes := ts }) (hf : ev s fo = some (.pv (.fn f caps))) (hx : evl s xs = some (args.map .pv)) (hB : callB P f = true)
  (h : Fn G P f (args ++ caps) rs) (hob : oneOwn rs = some ob) (hd : o.dst = d) (hn : dOk s d = true) : OpOk ro P c o s ((s.addRes kk ob).put d (some (resTop kk rs))) := by
 rintro a w ⟨O, θ, hs⟩ K Q hK
 obtain ⟨e1, e2⟩ := evl_ok hs hx
 have hfv := ev_pv hs hf
 generalize hfa : a.eval fo = fv at hfv
 cases hfv with
 | fn _ _ us hn' hh =>
  refine ⟨fun f _ => trivial, ?_⟩
  have hrun : (execOp a.eval o).run P w = .ok (.enter f ((xs.map a.eval).toArray ++ us)) w := by
   simp [execOp, ho, resolve, Deferred.ofValue, hfa, invoke, callB_spec hB]
  rw [Oper.semAt_plain _ _ _ (by rw [ho]; intro k h; cases h), hrun]
  refine ⟨fun h => by simp [FF, Fence.wide] at h, ?_⟩
  have hcall := h w O ((xs.map a.eval).toArray ++ us) hs.olt (c.JG hs.jn) (by have := e1; simp at this; simp [hn', this]) (fun i p v hp hv => by
   rw [List.getElem?_append] at hp
   have hl : xs.length = args.length := by simpa using e1
   split at hp
   ·rename_i hi
    rw [Array.getElem?_append_left (by simp; omega)] at hv
    have := e2 i (.pv p) v (by rw [List.getElem?_map, hp]; rfl) (by simpa using hv)
    exact rda_pv this
   ·rename_i hi
    rw [Array.getElem?_append_right (by simp; omega)] at hv
    exact hh _ p v hp (by simpa [hl] using hv))
  refine CallsIn.mono (callsIn_wide (n := 0 - 1).2 hcall) ?_
  rintro e w' ⟨v, O', rfl, hg, hO, hr⟩
  obtain ⟨O2, θ2, g1, g2⟩ := sim_of_ret kk hk hs hg hO hr hob
  subst hd
  refine hK _ _ ⟨O2, θ2, g1.put _ _ _ ?_ ?_ g2⟩
  ·intro t ht
   have : (s.addRes kk ob).n = s.n := by cases ob <;> rfl
   rw [this]
   exact dOk_lt hn t ht
  ·intro t ht
   have : (s.addRes kk ob).kt = s.kt := by cases ob <;> rfl
   rw [this]
   exact dOk_kt hn t ht
def viewArgs (fz : List (Nat × Option Blk)) : List AV → Option (List PV)
 | [] => some []
 | x :: l => match viewPV fz x, viewArgs fz l with
  | some p, some ps => some (p :: ps)
  | _, _ => none
theorem viewArgs_get {fz : List (Nat × Option Blk)} : ∀ {xs : List AV} {ps : List PV}, viewArgs fz xs = some ps → xs.length = ps.length ∧ ∀ (i : Nat) (x : AV) (p : PV), xs[i]? = some x → ps[i]? = some p → viewPV fz x = some p
 | [], ps, h => by simp [viewArgs] at h; subst h; simp
 | x :: l, ps, h => by
  simp only [viewArgs] at h
  split at h
  ·rename_i p qs hp hq
   cases h
   obtain ⟨h1, h2⟩ := viewArgs_get hq
   refine ⟨by simp [h1], fun i y q hy hq' => ?_⟩
   cases i with
   | zero => simp at hy hq'; subst hy; subst hq'; exact hp
   | succ i => exact h2 i y q (by simpa using hy) (by simpa using hq')
  ·cases h
def PV.flat : PV → Bool
 | .int _ _ => true
 | .bool _ => true
 | .str _ => true
 | .nilp => true
 | .nils => true
 | .nilf => true
 | .nili => true
 | .nilm => true
 | .agg cs => cs.all fun
  | .int _ _ => true
  | .bool _ => true
  | .str _ => true
  | .nilp => true
  | .nils => true
  | .nilf => true
  | .nili => true
  | .nilm => true
  | _ => false
 | .vs _ _ => false
 | .vp _ => false
 | .fn _ _ => false
 | .yld _ => false
 | .mpv _ _ _ => false
 | .mrv _ _ _ => false
 | .raw _ => false
theorem Rd.flat {w : World} {O O' : Nat → Prop} {p : PV} {v : Value} (h : Rd w O p v) (hp : p.flat = true) : Rd w O' p v := by
 cases h with
 | int k n => exact .int k n
 | bool b => exact .bool b
 | str l => exact .str l
 | nilp => exact .nilp
 | nils => exact .nils
 | nilf => exact .nilf
 | nili => exact .nili
 | nilm => exact .nilm
 | agg cs us h1 h2 h3 =>
  refine .agg cs us h1 h2 fun i x u hx hu => ?_
  have h4 := h3 i x u hx hu
  have h5 := List.all_eq_true.1 hp x (List.mem_of_getElem? hx)
  cases h4 with
  | int k n => exact .int k n
  | bool b => exact .bool b
  | str l => exact .str l
  | nilp => exact .nilp
  | nils => exact .nils
  | nilf => exact .nilf
  | nili => exact .nili
  | nilm => exact .nilm
  | _ => simp at h5
 | _ => simp [PV.flat] at hp
def Res.flat : Res → Bool
 | .p q => q.flat
 | _ => false
theorem op_callB (kk : Nat) (hk : freshB s kk = true) {fo : Operand} {xs : List Operand} {ts : Array TypeId} {f : Nat} {fa : AV} {caps : List PV} {asx : List AV} {args : List PV} {rs : List Res} (fz : List (Nat × Option Blk)) (ho : o.op = .call { callee := .value fo, args := xs.toArray, argTypes := ts }) (hf : ev s fo = some fa) (hx : evl s xs = some asx)
  (hfz : ∀ x ∈ fz, ∃ b, x.2 = some b ∧ look x.1 s.hp = some b) (hvf : viewPV fz fa = some (.fn f caps)) (hva : viewArgs fz asx = some args) (hB : callB P f = true)
  (h : Fn G P f (args ++ caps) rs) (hflat : (rs.all Res.flat) = true) (hd : o.dst = d) (hn : dOk s d = true) : OpOk ro P c o s (s.put d (some (resTop kk rs))) := by
 rintro a w ⟨O, θ, hs⟩ K Q hK
 have hfz' : ∀ id b, look id fz = some b → look id s.hp = some b := by
  intro id b hl
  obtain ⟨b', h1, h2⟩ := hfz _ (look_mem hl)
  cases h1; exact h2
 obtain ⟨e1, e2⟩ := evl_ok hs hx
 obtain ⟨e3, e4⟩ := viewArgs_get hva
 have hfv := view_ok (O2 := fun _ => False) hs hfz' (fun g h => h.elim) (fun _ _ _ _ _ _ _ h => h) hvf (ev_ok hs hf)
 generalize hfa : a.eval fo = fv at hfv
 cases hfv with
 | fn _ _ us hn' hh =>
  refine ⟨fun f _ => trivial, ?_⟩
  have hrun : (execOp a.eval o).run P w = .ok (.enter f ((xs.map a.eval).toArray ++ us)) w := by
   simp [execOp, ho, resolve, Deferred.ofValue, hfa, invoke, callB_spec hB]
  rw [Oper.semAt_plain _ _ _ (by rw [ho]; intro k h; cases h), hrun]
  refine ⟨fun h => by simp [FF, Fence.wide] at h, ?_⟩
  have hcall := h w (fun _ => False) ((xs.map a.eval).toArray ++ us) (fun _ h => h.elim) (c.JG hs.jn).shut (by simp [hn']; omega) (fun i p v hp hv => by
   rw [List.getElem?_append] at hp
   split at hp
   ·rename_i hi
    rw [Array.getElem?_append_left (by simp; omega)] at hv
    have hi' : i < asx.length := by omega
    exact view_ok (O2 := fun _ => False) hs hfz' (fun g h => h.elim) (fun _ _ _ _ _ _ _ h => h) (e4 i asx[i] p (List.getElem?_eq_getElem hi') hp) (e2 i asx[i] v (List.getElem?_eq_getElem hi') (by simpa using hv))
   ·rename_i hi
    rw [Array.getElem?_append_right (by simp; omega)] at hv
    exact hh _ p v hp (by
     have : xs.length = args.length := by omega
     simpa [this] using hv))
  refine CallsIn.mono (callsIn_wide (n := 0 - 1).2 hcall) ?_
  rintro e w' ⟨v, O', rfl, hg, _, hr⟩
  have hall : ∀ r ∈ rs, ∃ p, r = .p p ∧ p.flat = true := by
   intro r hr
   have := List.all_eq_true.1 hflat r hr
   cases r with
   | p p => exact ⟨p, rfl, this⟩
   | _ => simp [Res.flat] at this
  have hob : oneOwn rs = some none := by
   have : ∀ rs : List Res, (∀ r ∈ rs, ∃ p, r = .p p ∧ p.flat = true) → oneOwn rs = some none := by
    intro rs
    induction rs with
    | nil => intro _; rfl
    | cons r rs ih =>
     intro h
     obtain ⟨p, rfl, _⟩ := h r (by simp)
     exact ih fun r hr => h r (by simp [hr])
   exact this rs hall
  have hr' : RetOk w' O w.heap.size rs v := by
   unfold RetOk at hr ⊢
   split at hr
   ·rename_i r
    obtain ⟨p, rfl, hp⟩ := hall r (by simp)
    exact Rd.flat hr hp
   ·obtain ⟨us, h1, h2, h3⟩ := hr
    refine ⟨us, h1, h2, fun i r u hr hu => ?_⟩
    obtain ⟨p, rfl, hp⟩ := hall r (List.mem_of_getElem? hr)
    exact Rd.flat (h3 i _ u hr hu) hp
  obtain ⟨O2, θ2, g1, g2⟩ := sim_of_ret kk hk hs hg (fun _ h => h) hr' hob
  subst hd
  exact hK _ _ ⟨O2, θ2, g1.put _ _ _ (dOk_lt hn) (dOk_kt hn) g2⟩
end
end Go.Abs

namespace Go.Abs
variable {G : List (Nat × List PV)}
open Go.RowKit
section
variable {ro : Option Nat} {P : Program} {c : Cx G} {Q : Exit → Act → World → Prop} {s s' : St}
def Cut (c : Cx G) (Q : Exit → Act → World → Prop) (I : St → Prop) : Exit → Act → World → Prop
 | .normal, a, w => ∃ s, I s ∧ Sim c s a w
 | e, a, w => Q e a w
theorem aw_cut {k : Code} (I : St → Prop) (h : AW ro P c k (Cut c Q I) s) (h2 : ∀ s1, I s1 → Post c Q .normal s1) : AW ro P c k Q s := fun a w hs => by
 refine wpIn_mono (h a w hs) fun e a' w' he => ?_
 cases e with
 | normal => obtain ⟨s1, h3, h4⟩ := he; exact h2 s1 h3 a' w' h4
 | _ => exact he
theorem post_cut {I : St → Prop} (s1 : St) (hI : I s1) (hi : Imp c s s1) : Post c (Cut c Q I) .normal s := fun a w hs => ⟨s1, hI, hi a w hs⟩
theorem post_cut_ret {I : St → Prop} (h : Post c Q .ret s) : Post c (Cut c Q I) .ret s := h
def Lp (c : Cx G) (id : Nat) (Q : Exit → Act → World → Prop) (I : St → Prop) : Exit → Act → World → Prop
 | .normal, _, _ => False
 | .exit id', a, w => if id' = id then ∃ s, I s ∧ Sim c s a w else Q (.exit id') a w
 | e, a, w => Q e a w
theorem aw_for {id : Nat} {body : Code} (n : Nat) (I : St → Prop) (h : RndW ro P c body (Lp c id Q I) n s) (h2 : ∀ s1, I s1 → Post c Q .normal s1) : AW ro P c (.block id (.loop body)) Q s := by
 refine aw_block fun a w hs => ?_
 refine wpIn_mono (wpIn_loop_rounds n (h a w hs)) fun e a' w' he => ?_
 cases e with
 | normal => exact he.elim
 | exit id' =>
  simp only [Lp] at he
  simp only [Exit.inBlock]
  split at he
  ·rename_i e; subst e
   obtain ⟨s1, h3, h4⟩ := he
   simpa using h2 s1 h3 a' w' h4
  ·rename_i e
   simp [e, he]
 | _ => exact he
theorem post_lp_break {id : Nat} {I : St → Prop} (s1 : St) (hI : I s1) (hi : Imp c s s1) : Post c (Lp c id Q I) (.exit id) s := fun a w hs => by
 simp only [Lp, if_true]
 exact ⟨s1, hI, hi a w hs⟩
theorem post_lp_ret {id : Nat} {I : St → Prop} (h : Post c Q .ret s) : Post c (Lp c id Q I) .ret s := h
theorem aw_cond_t {x y : Code} {t : Operand} {b : Bool} (ht : ev s t = some (.pv (.bool b))) (hb : b = true) (h1 : AW ro P c x Q s) : AW ro P c (.cond t x y) Q s :=
 aw_cond ht (fun _ => h1) (fun h => by rw [hb] at h; cases h)
theorem aw_cond_f {x y : Code} {t : Operand} {b : Bool} (ht : ev s t = some (.pv (.bool b))) (hb : b = false) (h1 : AW ro P c y Q s) : AW ro P c (.cond t x y) Q s :=
 aw_cond ht (fun h => by rw [hb] at h; cases h) (fun _ => h1)
theorem guard_on {all : List Oper} {o : Oper} {j d : Nat} {want t : Bool} (hg : o.guard = some (j, want)) (hj : ((all[j]?).bind (·.dst)) = some d) (hn : Nat.blt d s.n = true) (hl : look d s.fr = some (.pv (.bool t))) (ht : t = want) : Guard all s o true := by
 unfold Guard; rw [hg]; exact ⟨d, hj, by simpa [Nat.blt_eq] using hn, .inl ⟨t, hl, by subst ht; simp⟩⟩
theorem guard_off {all : List Oper} {o : Oper} {j d : Nat} {want t : Bool} (hg : o.guard = some (j, want)) (hj : ((all[j]?).bind (·.dst)) = some d) (hn : Nat.blt d s.n = true) (hl : look d s.fr = some (.pv (.bool t))) (ht : t = !want) : Guard all s o false := by
 unfold Guard; rw [hg]; exact ⟨d, hj, by simpa [Nat.blt_eq] using hn, .inl ⟨t, hl, by subst ht; cases want <;> rfl⟩⟩
theorem guard_undef {all : List Oper} {o : Oper} {j d : Nat} {want : Bool} (hg : o.guard = some (j, want)) (hj : ((all[j]?).bind (·.dst)) = some d) (hn : Nat.blt d s.n = true) (hl : look d s.fr = some (.tup [])) : Guard all s o false := by
 unfold Guard; rw [hg]; exact ⟨d, hj, by simpa [Nat.blt_eq] using hn, .inr ⟨hl, rfl⟩⟩
theorem guard_no {all : List Oper} {o : Oper} (hg : o.guard = none) : Guard all s o true := by unfold Guard; rw [hg]
theorem op_pick_t {o : Oper} {d : Option Nat} {x y z : Operand} {b : Bool} {v : AV} (ho : o.op = .pick x y z) (hx : ev s x = some (.pv (.bool b))) (hb : b = true) (hv : ev s y = some v) (hd : o.dst = d) (hn : dOk s d = true) : OpOk ro P c o s (s.put d (some v)) :=
 op_pick ho hx (by rw [hb]; exact hv) hd hn
theorem op_pick_f {o : Oper} {d : Option Nat} {x y z : Operand} {b : Bool} {v : AV} (ho : o.op = .pick x y z) (hx : ev s x = some (.pv (.bool b))) (hb : b = false) (hv : ev s z = some v) (hd : o.dst = d) (hn : dOk s d = true) : OpOk ro P c o s (s.put d (some v)) :=
 op_pick ho hx (by rw [hb]; exact hv) hd hn
theorem bind_some {α β : Type} {x : Option α} {k : α → Option β} {r : β} (h : x.bind k = some r) : ∃ y, x = some y ∧ k y = some r := by
 cases x with
 | none => cases h
 | some y => exact ⟨y, rfl, h⟩
theorem ite_some {β : Type} {b : Bool} {x y : Option β} {r : β} (h : (if b = true then x else y) = some r) : (b = true ∧ x = some r) ∨ (b = false ∧ y = some r) := by
 cases b with
 | true => exact .inl ⟨rfl, by simpa using h⟩
 | false => exact .inr ⟨rfl, by simpa using h⟩
def room (n : Int) (b : Int) : Option Unit := if n * b ≤ 140737488355328 then some () else none
theorem room_spec {n b : Int} {u : Unit} (h : room n b = some u) : n * b ≤ 140737488355328 := by
 unfold room at h; split at h
 ·assumption
 ·cases h
theorem room_nat {n m b : Nat} {u : Unit} (h : room ((n : Int) + (m : Int)) (b : Int) = some u) : (n + m) * b ≤ 140737488355328 := by
 have := room_spec h
 rw [← Int.natCast_add, ← Int.natCast_mul] at this
 omega
theorem room_map {α β γ : Type} {f : α → γ} {g : β → γ} {l : List α} {m : List β} {b : Nat} {u : Unit} (h : room ((l.length : Int) + (m.length : Int)) (b : Int) = some u) : ((l.map f).length + (m.map g).length) * b ≤ 140737488355328 := by
 rw [List.length_map, List.length_map]; exact room_nat h
theorem map_set' {α β : Type} (f : α → β) (l : List α) (i : Nat) (x : α) : (l.map f).set i (f x) = (l.set i x).map f := by simp
theorem map_get {α β : Type} (f : α → β) {l : List α} {i : Int} {y : α} (h : idx l i = some y) : (l.map f)[i.toNat]? = some (f y) := by
 rw [List.getElem?_map, (idx_spec h).2.1]; rfl
inductive Ctl (R S : Type) where
 | stop (r : R)
 | next (s : S)
def Ctl.go {R S : Type} : Ctl (Option R) S → (S → Option R) → Option R
 | .stop a, _ => a
 | .next s, k => k s
def Ctl.fin {R S : Type} : Ctl R S → (S → Option R) → Option R
 | .stop r, _ => some r
 | .next s, k => k s
def obind {α R S : Type} : Option α → (α → Ctl (Option R) S) → Ctl (Option R) S
 | none, _ => .stop none
 | some x, k => k x
theorem go_bind {α R S : Type} {x : Option α} {f : α → Ctl (Option R) S} {k : S → Option R} {r : R} (h : Ctl.go (obind x f) k = some r) : ∃ y, x = some y ∧ Ctl.go (f y) k = some r := by
 cases x with
 | none => cases h
 | some y => exact ⟨y, rfl, h⟩
theorem go_ite {R S : Type} {b : Bool} {x y : Ctl (Option R) S} {k : S → Option R} {r : R} (h : Ctl.go (if b = true then x else y) k = some r) : (b = true ∧ Ctl.go x k = some r) ∨ (b = false ∧ Ctl.go y k = some r) := by
 cases b with
 | true => exact .inl ⟨rfl, by simpa using h⟩
 | false => exact .inr ⟨rfl, by simpa using h⟩
theorem aw_join {k : Code} {R S : Type} {X : Ctl (Option R) S} {kk : S → Option R} {r : R} (_hF : Ctl.go X kk = some r) (F : S → St) (h : AW ro P c k (Cut c Q fun s1 => ∃ p, s1 = F p ∧ kk p = some r) s) (h2 : ∀ p, kk p = some r → Post c Q .normal (F p)) : AW ro P c k Q s :=
 aw_cut _ h (by rintro _ ⟨p, rfl, hp⟩; exact h2 p hp)
theorem rnd_loop {α : Type} {body : Code} {m : Nat} (S : α → St) (Inv : Nat → α → Prop) (x0 : α) (hi : Imp c s (S x0)) (h0 : Inv m x0) (hz : ∀ x, ¬ Inv 0 x)
  (hs : ∀ n x, Inv (n + 1) x → (∀ x', Inv n x' → RndW ro P c body Q n (S x')) → RndW ro P c body Q (n + 1) (S x)) : RndW ro P c body Q m s := by
 refine rnd_imp hi ?_
 have : ∀ n x, Inv n x → RndW ro P c body Q n (S x) := by
  intro n
  induction n with
  | zero => intro x h; exact absurd h (hz x)
  | succ n ih => intro x h; exact hs n x h ih
 exact this m x0 h0
theorem nolent3 {w : World} {O : Nat → Prop} : ∀ g, ¬ (Fn.cx (G := G) w O).L g := fun _ h => h
def FzH (hp : List (Nat × Option Blk)) : List (Nat × Option Blk) → Prop
 | [] => True
 | (id, some b) :: l => look id hp = some b ∧ FzH hp l
 | (_, none) :: _ => False
theorem FzH.spec {hp : List (Nat × Option Blk)} : ∀ {fz : List (Nat × Option Blk)}, FzH hp fz → ∀ x ∈ fz, ∃ b, x.2 = some b ∧ look x.1 hp = some b
 | [], _, x, hx => by simp at hx
 | (id, some b) :: l, h, x, hx => by
  rcases List.mem_cons.1 hx with e | e
  ·subst e; exact ⟨b, rfl, h.1⟩
  ·exact FzH.spec h.2 x e
 | (_, none) :: _, h, _, _ => h.elim
theorem evl_nil : evl s [] = some [] := rfl
theorem evl_cons {x : Operand} {l : List Operand} {v : AV} {vs : List AV} (h1 : ev s x = some v) (h2 : evl s l = some vs) : evl s (x :: l) = some (v :: vs) := by simp [evl, h1, h2]
theorem evs_nil : evs s [] = some [] := rfl
theorem evs_cons {i : Nat} {x : Operand} {l : List (Nat × Operand)} {v : AV} {vs : List (Nat × AV)} (h1 : ev s x = some v) (h2 : evs s l = some vs) : evs s ((i, x) :: l) = some ((i, v) :: vs) := by simp [evs, h1, h2]
theorem evo_some {x : Operand} {k : IntKind} {n : Int} (h1 : ev s x = some (.pv (.int k n))) : evo s (some x) = some (some n) := by simp [evo, h1]
theorem fresh_free {k : Nat} (h : s.free.elem k = true) : freshB s k = true := by simp only [freshB, h, Bool.or_true]
theorem imp_nil_own (t e sz kk : Nat) (hk : freshB s kk = true) (h : look t s.fr = some (.pv .nils)) : Imp c s ((s.addAt kk none (.row e sz [])).put (some t) (some (.ls kk))) := by
 rintro a w ⟨O, θ, hs⟩
 obtain ⟨O', θ', h1, h2, h3, h4⟩ := hs.addAt (w' := w) (row := none) (v := .slice none 0 0) (b := .row e sz []) kk hk none (by simp) (fun _ => rfl) ⟨rfl, rfl, rfl, Nat.le_refl _, fun _ _ _ => rfl⟩ (by simp [blkOf]) rfl
   (fun O' θ' _ _ => ⟨[], ownsW_nil w e sz, ⟨by simp, by simp, by simp, fun i j row x u h => by simp at h⟩⟩)
 refine ⟨O', θ', h4.size, h4.df, ?_, h4.hp, h4.inj, h4.dom, h4.flt, h4.one, h4.olt, h4.ext, h4.xo, h4.xlt, h4.llt, h4.marks, h4.oc, h4.kp, h4.jn⟩
 intro t' x hx
 simp only [St.put, look_cons] at hx
 split at hx
 ·rename_i e; subst e; cases hx
  have := rda_pv (hs.fr _ _ h)
  generalize a.tmps.getD t undef = v at this ⊢
  cases this
  exact .ls _ _ h3
 ·exact h4.fr _ _ hx
theorem imp_nil_box (id off t e sz kk : Nat) {cells : List AV} (hk : freshB s kk = true) (hb : look id s.hp = some (.box t cells)) (h : cells[off]? = some (.pv .nils)) : Imp c s ((s.addAt kk none (.row e sz [])).setBlk id (some (.box t (cells.set off (.ls kk))))) := by
 rintro a w ⟨O, θ, hs⟩
 obtain ⟨O', θ', h1, h2, h3, h4⟩ := hs.addAt (w' := w) (row := none) (v := .slice none 0 0) (b := .row e sz []) kk hk none (by simp) (fun _ => rfl) ⟨rfl, rfl, rfl, Nat.le_refl _, fun _ _ _ => rfl⟩ (by simp [blkOf]) rfl
   (fun O' θ' _ _ => ⟨[], ownsW_nil w e sz, ⟨by simp, by simp, by simp, fun i j row x u h => by simp at h⟩⟩)
 have hne : id ≠ kk := by
  intro e; subst e
  obtain ⟨v, hv, _⟩ := hs.hp id _ hb
  have h5 := hs.dom id v hv
  simp only [freshB, Bool.or_eq_true, List.elem_eq_mem, decide_eq_true_eq] at hk
  rcases hk with hk | hk
  ·have := Nat.eq_of_beq_eq_true hk; omega
  ·exact h5.2 hk
 have hb' : look id (s.addAt kk none (.row e sz [])).hp = some (.box t cells) := by
  simp only [St.addAt, look_cons]
  rw [if_neg (fun e => hne e.symm)]
  exact hb
 obtain ⟨v, hv, ⟨g, us, rfl, k1, k2, k3⟩, k4⟩ := h4.hp id _ hb'
 refine ⟨O', θ', h4.upd hb' hv (World.grownBy.refl w _) ⟨g, us, rfl, k1, by simpa using k2, fun j x u hx hu => ?_⟩⟩
 rw [List.getElem?_set] at hx
 split at hx
 ·rename_i e; subst e
  split at hx
  ·cases hx
   obtain ⟨m1, m2⟩ := k3 off _ u h hu
   have := rda_pv m1
   cases this
   exact ⟨.ls _ _ h3, m2⟩
  ·cases hx
 ·exact k3 j x u hx hu
variable {o : Oper} {d : Option Nat}
end
end Go.Abs

