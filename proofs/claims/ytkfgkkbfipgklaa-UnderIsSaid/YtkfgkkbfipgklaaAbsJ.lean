/- The abstract layer that the proof stands on: no condition. -/
import Derived.Test.YtkfgkkbfipgklaaAbsI
import Derived.Laws.MakeOwn
namespace Go.Abs
open Go.RowKit

def eqB (P : Program) (T : Nat) (ts : List Tag) : Bool := decide (flatT P 20 T = some ts) && !P.eqGuardType P.depth T && aggB P T ts.length

theorem aggB_mk {P : Program} {T n : Nat} (h : aggB P T n = true) (us : List Value) : mkOf P T us = .agg us.toArray := by
  unfold aggB at h
  simp only [Bool.and_eq_true] at h
  unfold mkOf
  have h1 := h.1
  split at h1
  · rename_i hu; rw [hu]
  · rename_i hu; rw [hu]
  · cases h1

theorem reads1_of_agg {w : World} {O : Nat → Prop} {ps : List PV} {us : Array Value} (h : Rd w O (.agg ps) (.agg us)) : Reads1 w O us.toList ps := by
  obtain ⟨us', he, h1, h2, h3⟩ := rd_agg h
  cases he
  exact ⟨by simpa using h1, h2, fun j p u hp hu => h3 j p u hp (by simpa using hu)⟩

section
variable {ro : Option Nat} {P : Program} {c : Cx} {s s' : St} {o : Oper} {d : Option Nat}

theorem run_eqSliceNil (w : World) (t e : TypeId) (a : Option Addr) (n c : Nat) (h : P.underlying t = some (.slice e)) : (binOp .eql t (.slice a n c) (.slice none 0 0)).run P w = .ok (.bool a.isNone) w := by
  have h1 : ∀ d : Nat, (Op.equalIn (d + 1) t (.slice a n c) (.slice none 0 0)).run P w = .ok a.isNone w := fun d => by
    cases a <;> simp [Op.equalIn, run_underlying h]
  simp only [binOp]
  simp [Op.equal, Op.maxDepth, h1]

theorem op_eqAgg {op : BinOp} {T T' : TypeId} {x y : Operand} {ps qs : List PV} {ts : List Tag} {r : Bool} (ho : o.op = .binOp op T x y T') (hop : op = .eql ∨ op = .neq) (hx : ev s x = some (.pv (.agg ps))) (hy : ev s y = some (.pv (.agg qs)))
    (ht : eqB P T ts = true) (hp : ps.map PV.tag = ts.map some) (hq : qs.map PV.tag = ts.map some) (hr : eqCells ps qs = some r) (hd : o.dst = d) (hn : dOk s d = true) :
    OpOk ro P c o s (s.put d (some (.pv (.bool (match op with | .eql => r | _ => !r))))) :=
  opOk_value hd hn (by rw [ho]; intro k h; cases h) fun a w O θ hs => by
    have h1 := ev_pv hs hx
    have h2 := ev_pv hs hy
    obtain ⟨us, e1, _⟩ := rd_agg h1
    obtain ⟨vs, e2, _⟩ := rd_agg h2
    rw [e1] at h1
    rw [e2] at h2
    simp only [eqB, Bool.and_eq_true, decide_eq_true_eq, Bool.not_eq_true'] at ht
    obtain ⟨⟨t1, t2⟩, t3⟩ := ht
    have hrun := run_equal_flat 20 10000 T ts w O us.toList vs.toList ps qs r (by omega) t1 hp hq (reads1_of_agg h1) (reads1_of_agg h2) hr
    rw [aggB_mk t3, aggB_mk t3] at hrun
    simp only [Array.toArray_toList] at hrun
    rcases hop with rfl | rfl
    · exact ⟨_, by simp [execOp, ho, e1, e2, run_eqGuard_agg w _ _ _ _ _ _ t2, run_eql_struct, hrun], .pv _ _ (.bool _)⟩
    · exact ⟨_, by simp [execOp, ho, e1, e2, run_eqGuard_agg w _ _ _ _ _ _ t2, run_neq_struct, hrun], .pv _ _ (.bool _)⟩

/-- '==' with nil, where the slice is not empty; where it is empty either answer is taken. -/
theorem op_eqNil {T e sz sz' : Nat} {T' : TypeId} {x y : Operand} {rows : List (List PV)} {Q : Exit → Act → World → Prop} {all rest : List Oper} (ho : o.op = .binOp .eql T x y T') (hx : ev s x = some (.pv (.vs sz rows))) (hy : y = .const (.slice none 0 0)) (ht : sliceB P T e sz' = true)
    (hg : Guard all s o true) (hd : o.dst = d) (hn : dOk s d = true) (h1 : rows = [] → RegW ro P c all rest Q (s.put d (some (.pv (.bool true))))) (h2 : RegW ro P c all rest Q (s.put d (some (.pv (.bool false))))) : RegW ro P c all (o :: rest) Q s := by
  rintro a w ⟨O, θ, hs⟩
  obtain ⟨i, t1, _, _⟩ := sliceB_spec ht
  have hv := ev_pv hs hx
  simp only [wpListIn, guard_wanted hs hg, if_true]
  refine ⟨fun f _ => trivial, ?_⟩
  rw [Oper.semAt_plain _ _ _ (by rw [ho]; intro k h; cases h)]
  subst hd; subst hy
  rcases rd_vs hv with ⟨ad, cap0, he, rfl, _, _⟩ | ⟨b, off, cap, us, he, _⟩
  · cases ad with
    | some ad =>
      have hr : (execOp a.eval o).run P w = .ok (.value (.bool false)) w := by
        simp [execOp, ho, he, eqGuard, show a.eval (.const (.slice none 0 0)) = .slice none 0 0 from rfl, run_eqSliceNil w T e _ _ _ t1]
      rw [hr]
      exact h2 _ _ ⟨O, θ, hs.put _ _ _ (dOk_lt hn) (dOk_kt hn) (.pv _ _ (.bool _))⟩
    | none =>
    have hr : (execOp a.eval o).run P w = .ok (.value (.bool true)) w := by
      simp [execOp, ho, he, eqGuard, show a.eval (.const (.slice none 0 0)) = .slice none 0 0 from rfl, run_eqSliceNil w T e _ _ _ t1]
    rw [hr]
    exact h1 rfl _ _ ⟨O, θ, hs.put _ _ _ (dOk_lt hn) (dOk_kt hn) (.pv _ _ (.bool _))⟩
  · have hr : (execOp a.eval o).run P w = .ok (.value (.bool false)) w := by
      simp [execOp, ho, he, eqGuard, show a.eval (.const (.slice none 0 0)) = .slice none 0 0 from rfl, run_eqSliceNil w T e _ _ _ t1]
    rw [hr]
    exact h2 _ _ ⟨O, θ, hs.put _ _ _ (dOk_lt hn) (dOk_kt hn) (.pv _ _ (.bool _))⟩

/-- make -/
theorem op_make (kk : Nat) (hk : freshB s kk = true) {T e sz bytes : Nat} {x y : Operand} {k k' : IntKind} {n m : Int} {z : Value} {zs : List PV} {rows : List (List PV)} (ho : o.op = .makeSlice T x y) (hx : ev s x = some (.pv (.int k n))) (hy : ev s y = some (.pv (.int k' m))) (h0 : 0 ≤ n) (hnm : n ≤ m)
    (hroom : m * bytes ≤ 140737488355328) (ht : sliceB P T e sz = true) (hby : elemB P e bytes = true) (hby0 : Nat.blt 0 bytes = true) (hz : zeroIs P e z) (hzs : czs z.cells.toList zs) (hzl : zs.length = sz) (hsz : Nat.blt 0 sz = true) (hrows : List.replicate n.toNat zs = rows)
    (hd : o.dst = d) (hn : dOk s d = true) : OpOk ro P c o s ((s.addAt kk none (.row e sz rows)).put d (some (.ls kk))) :=
  opOk_mem (s1 := s.addAt kk none (.row e sz rows)) hd hn (by rw [ho]; intro k h; cases h) fun a w O θ hs => by
    subst hrows
    obtain ⟨i, h1, h2, h3⟩ := sliceB_spec ht
    have hb2 : i.bytes = bytes := by simpa [elemB, h2] using hby
    have hb1 : 0 < bytes := by simpa [Nat.blt_eq] using hby0
    have hsz' : 0 < sz := by simpa [Nat.blt_eq] using hsz
    obtain ⟨_, i', hi', hz'⟩ := zeroIs_spec hz w
    rw [h2] at hi'; cases hi'
    have hmm : m ≤ m * bytes := by
      have := Int.mul_le_mul_of_nonneg_left (show (1 : Int) ≤ bytes by omega) (show 0 ≤ m by omega)
      omega
    have hrun := run_make (P := P) w T e i z h1 h2 hz' k k' n m h0 hnm (by rw [hb2, Int.mul_comm]; omega) (by omega)
    have hzr := czs_reads1 (w := w) (O := O) hzs
    have hzc : z.cells.size = sz := by have := hzr.1; simp at this; omega
    have hg := alloc_grown w (.cells (madeCells z.cells (m.toNat * i.size)) e)
    have hle : n.toNat * sz ≤ m.toNat * sz := Nat.mul_le_mul_right _ (by omega)
    have hblk : ∀ (O' : Nat → Prop) (θ' : Nat → Option Value), (∀ g, O' g ↔ O g ∨ blkOf (.slice (some ⟨w.heap.size, 0, none⟩) n.toNat m.toNat) = some g) →
        BlkOk (w.alloc (.cells (madeCells z.cells (m.toNat * i.size)) e)) O' θ' (.slice (some ⟨w.heap.size, 0, none⟩) n.toNat m.toNat) (.row e sz (List.replicate n.toNat zs)) := by
      intro O' θ' hO'
      refine ⟨(madeCells z.cells (m.toNat * i.size)).toList.take (n.toNat * sz), ?_, ?_, ?_, ?_, ?_⟩
      · refine ⟨by rw [List.length_take, Array.length_toList, size_madeCells, h3, Nat.min_eq_left hle, List.length_replicate], .inr ⟨w.heap.size, m.toNat, _, by simp, trivial, heap_alloc_new w _, by rw [List.length_replicate]; omega, by unfold maxLen; omega, by rw [size_madeCells, h3]; exact Nat.le_refl _, by rw [List.length_replicate]⟩⟩
      · rw [List.length_take, Array.length_toList, size_madeCells, h3, List.length_replicate, Nat.min_eq_left hle]
      · intro row hr; rw [List.eq_of_mem_replicate hr]; exact hzl
      · intro row hr x hx; rw [List.eq_of_mem_replicate hr] at hx; exact hzr.2.1 x hx
      · intro i' j row x u hr hx hu
        rw [List.getElem?_replicate] at hr
        split at hr
        · cases hr
          rename_i hi'
          have hj : j < sz := by have := (List.getElem?_eq_some_iff.1 hx).1; omega
          have hlt := index_lt hi' hj
          rw [List.getElem?_take, if_pos hlt] at hu
          have hlt2 : i' * sz + j < m.toNat * sz := by omega
          simp only [madeCells, Array.toList_map, List.getElem?_map, Array.toList_range, h3, List.getElem?_range hlt2, Option.map_some, Option.some.injEq] at hu
          subst hu
          have hmod : (i' * sz + j) % z.cells.size = j := by rw [hzc, Nat.mul_comm, Nat.mul_add_mod, Nat.mod_eq_of_lt hj]
          rw [hmod]
          have hjz : j < z.cells.size := by omega
          refine (hzr.2.2 j x _ hx (by simp [hjz])).mono hg.size (fun b hb hn => ⟨fun hh => ?_, hg.block b hb (by simp)⟩)
          rcases (hO' b).1 hh with h | h
          · exact hn h
          · simp [blkOf] at h; omega
        · cases hr
    obtain ⟨O', θ', h4, h5, h6, h7⟩ := hs.addAt (w' := w.alloc (.cells (madeCells z.cells (m.toNat * i.size)) e)) (row := none) (v := .slice (some ⟨w.heap.size, 0, none⟩) n.toNat m.toNat) (b := .row e sz (List.replicate n.toNat zs)) kk hk none (by simp) (fun _ => rfl) hg
      (fun g hg => by simp [blkOf] at hg; subst hg; simp) rfl (fun O' θ' hO' _ => hblk O' θ' hO')
    exact ⟨_, _, O', θ', by simp [execOp, ho, ev_int hs hx, ev_int hs hy, hrun], h7, .ls _ _ h6⟩

/-- copy into a row of the call's own. -/
theorem op_copy {T T2 e sz : Nat} {x y : Operand} {id : Nat} {rows news rows' : List (List PV)} (ho : o.op = .call { callee := .builtin .copy, args := #[x, y], argTypes := #[T, T2] }) (hx : ev s x = some (.ls id)) (hb : look id s.hp = some (.row e sz rows))
    (hy : ev s y = some (.pv (.vs sz news))) (ht : sliceB P T e sz = true) (hrows : news.take rows.length ++ rows.drop news.length = rows') (hd : o.dst = d) (hn : dOk s d = true) :
    OpOk ro P c o s ((s.setBlk id (some (.row e sz rows'))).put d (some (.pv (.int .i64 (Nat.min news.length rows.length))))) :=
  opOk_mem (s1 := s.setBlk id (some (.row e sz rows'))) hd hn (by rw [ho]; intro k h; cases h) fun a w O θ hs => by
    subst hrows
    obtain ⟨i, h1, h2, h3⟩ := sliceB_spec ht
    have h := ev_ok hs hx
    have hv := ev_pv hs hy
    generalize ha : a.eval x = u at h
    generalize hay : a.eval y = v at hv
    cases h with
    | ls _ _ h =>
      obtain ⟨v', hv', ⟨us, hown, hrd⟩, hO2⟩ := hs.hp id _ hb
      rw [h] at hv'; cases hv'
      have hrl : (news.take rows.length ++ rows.drop news.length).length = rows.length := by simp; omega
      -- nothing to copy
      have idle : ∀ v : Value, Nat.min news.length rows.length = 0 → a.eval y = v → (Builtin.lenOf v).run P w = .ok news.length w → (Builtin.firstCells sz 0 v).run P w = .ok #[] w →
          ∃ v w' O' θ', (execOp a.eval o).run P w = .ok (.value v) w' ∧ SimAt c (s.setBlk id (some (.row e sz (news.take rows.length ++ rows.drop news.length)))) O' θ' a w' ∧ RdA w' O' θ' (.pv (.int .i64 (Nat.min news.length rows.length))) v := by
        intro v h0 hv h4 h5
        have hrr : news.take rows.length ++ rows.drop news.length = rows := by
          rcases Nat.eq_zero_or_pos rows.length with h6 | h6
          · have : rows = [] := List.eq_nil_of_length_eq_zero h6
            subst this; simp
          · have h7 : news.length = 0 := by
              simp only [Nat.min_def] at h0; split at h0 <;> omega
            have : news = [] := List.eq_nil_of_length_eq_zero h7
            subst this; simp
        refine ⟨goInt 0, w, O, θ, ?_, ?_, by rw [h0]; exact .pv _ _ (.int _ _)⟩
        · rcases hown.2 with ⟨rfl, h6⟩ | ⟨g, cap, cur, rfl, _⟩
          · have h0' : Nat.min news.length 0 = 0 := by simp
            simp [execOp, ho, resolve, invoke, builtin, ha, hv, Builtin.copy_, run_underlying h1, h4, h0', sizeOf, typeInfo, h2, h3, h5]
          · simp [execOp, ho, resolve, invoke, builtin, ha, hv, Builtin.copy_, run_underlying h1, h4, h0, sizeOf, typeInfo, h2, h3, h5, storeCells]
        · rw [hrr]
          exact hs.upd hb h (World.grownBy.refl w _) ⟨us, hown, hrd⟩
      rcases rd_vs hv with ⟨ad, cap0, rfl, rfl, _, _⟩ | ⟨b, off, cap, f, rfl, hr⟩
      · exact idle _ (by simp) hay (by simp [Builtin.lenOf]) (by cases ad <;> simp [Builtin.firstCells, loadCells, loadCellsFrom])
      · obtain ⟨vs, q1, q2, q3, q4⟩ := rows_of_vs hr
        by_cases h0 : Nat.min news.length rows.length = 0
        · exact idle _ h0 hay (by simp [Builtin.lenOf]) (by simp [Builtin.firstCells, loadCells, loadCellsFrom])
        · rcases hown.2 with ⟨rfl, h6⟩ | ⟨g, cap', cur, rfl, hb0, hg0, hnc, hcm, hcs, htake⟩
          · exact absurd (by simp [h6]) h0
          · have hq : (RowsRd w O sz (news.take rows.length) (vs.take (Nat.min news.length rows.length * sz))) := by
              refine ⟨?_, fun row hr => q1.hz row (List.mem_of_mem_take hr), fun row hr => q1.one row (List.mem_of_mem_take hr), fun i j row x u h1 h2 h3 => ?_⟩
              · have : Nat.min news.length rows.length * sz ≤ news.length * sz := Nat.mul_le_mul_right _ (Nat.min_le_left _ _)
                rw [List.length_take, List.length_take, q1.len, Nat.min_eq_left this, Nat.min_comm]
              · rw [List.getElem?_take] at h1 h3
                split at h1
                · split at h3
                  · exact q1.rd i j row x u h1 h2 h3
                  · cases h3
                · cases h1
            have hnsz : Nat.min news.length rows.length * sz ≤ rows.length * sz := Nat.mul_le_mul_right _ (Nat.min_le_right _ _)
            have hvl : (vs.take (Nat.min news.length rows.length * sz)).length = Nat.min news.length rows.length * sz := by
              have : Nat.min news.length rows.length * sz ≤ news.length * sz := Nat.mul_le_mul_right _ (Nat.min_le_left _ _)
              rw [List.length_take, q1.len, Nat.min_eq_left this]
            have hcap : rows.length * sz ≤ cur.size := Nat.le_trans (Nat.mul_le_mul_right _ hnc) hcs
            have hf := run_firstCells_some (P := P) w sz (Nat.min news.length rows.length) ⟨b, off, none⟩ news.length cap _ hvl (fun j u hu => by
              rw [Addr.add_lit]
              rw [List.getElem?_take] at hu
              split at hu
              · exact q2 j u hu
              · cases hu)
            have h1c : ∀ u ∈ vs.take (Nat.min news.length rows.length * sz), u.oneCell' = true := by
              intro u hu
              obtain ⟨k, hk⟩ := List.getElem?_of_mem hu
              have hkl : k < Nat.min news.length rows.length * sz := by have := (List.getElem?_eq_some_iff.1 hk).1; omega
              have hpos : 0 < sz := by
                rcases Nat.eq_zero_or_pos sz with h | h
                · subst h; simp at hkl
                · exact h
              have hq' : k / sz < Nat.min news.length rows.length := Nat.div_lt_of_lt_mul (by rw [Nat.mul_comm]; exact hkl)
              have hm : k % sz < sz := Nat.mod_lt _ hpos
              have e1 : k / sz * sz + k % sz = k := by rw [Nat.mul_comm]; exact Nat.div_add_mod k sz
              have hlt : k / sz < (news.take rows.length).length := by rw [List.length_take, Nat.min_comm]; exact hq'
              have er : (news.take rows.length)[k / sz]? = some (news.take rows.length)[k / sz] := List.getElem?_eq_getElem hlt
              have hl' : k % sz < ((news.take rows.length)[k / sz]).length := by rw [hq.hz _ (List.mem_of_getElem? er)]; exact hm
              exact (hq.rd _ _ _ _ u er (List.getElem?_eq_getElem hl') (by rw [e1]; exact hk)).one_ (hq.one _ (List.mem_of_getElem? er) _ (List.getElem_mem hl'))
            have hst := run_storeCells_at P g 0 e (vs.take (Nat.min news.length rows.length * sz)) 0 cur w hg0 (by rw [hvl]; omega) h1c
            simp only [Nat.add_zero, Nat.zero_add, List.take_zero, List.nil_append, hvl] at hst
            have hgr := setRow_grown w g ((vs.take (Nat.min news.length rows.length * sz)) ++ cur.toList.drop (Nat.min news.length rows.length * sz)).toArray
            have hO : ∀ b, b < w.heap.size → ¬ O b → ¬ O b ∧ (w.setRow g ((vs.take (Nat.min news.length rows.length * sz)) ++ cur.toList.drop (Nat.min news.length rows.length * sz)).toArray).heap[b]? = w.heap[b]? := fun b hb1 hb2 =>
              ⟨hb2, hgr.block b hb1 (fun e => hb2 (hO2 b (by simpa [blkOf] using e.symm)).1)⟩
            refine ⟨goInt (Nat.min news.length rows.length), _, O, θ, ?_, hs.upd hb h hgr ⟨(vs.take (Nat.min news.length rows.length * sz)) ++ us.drop (Nat.min news.length rows.length * sz), ?_, ?_⟩, .pv _ _ (.int _ _)⟩
            · simp only [execOp, ho, resolve, invoke, builtin, List.map_toArray, List.map_cons, List.map_nil, ha, hay, Sem.run_bind, Sem.run_pure, Result.andThen_ok, Builtin.copy_]
              simp [run_underlying h1, Builtin.lenOf, sizeOf, typeInfo, h2, h3, hf, hst]
            · refine ⟨?_, .inr ⟨g, cap', _, by rw [hrl], hb0, setRow_at w g cur _ e (0, 0) hg0, by rw [hrl]; exact hnc, hcm, ?_, ?_⟩⟩
              · rw [List.length_append, hvl, List.length_drop, hown.1, hrl]; omega
              · simp only [List.size_toArray, List.length_append, hvl, List.length_drop, Array.length_toList]; omega
              · rw [hrl, List.take_append, hvl, List.take_of_length_le (by rw [hvl]; exact hnsz), ← htake, List.drop_take]
            · have hd2 : RowsRd w O sz (rows.drop news.length) (us.drop (Nat.min news.length rows.length * sz)) := by
                refine ⟨?_, fun row hr => hrd.hz row (List.mem_of_mem_drop hr), fun row hr => hrd.one row (List.mem_of_mem_drop hr), fun i j row x u h1 h2 h3 => ?_⟩
                · rw [List.length_drop, List.length_drop, hrd.len, ← Nat.sub_mul]; congr 1; simp only [Nat.min_def]; split <;> omega
                · rw [List.getElem?_drop] at h1 h3
                  have hlt : news.length + i < rows.length := (List.getElem?_eq_some_iff.1 h1).1
                  have e1 : Nat.min news.length rows.length = news.length := by simp only [Nat.min_def]; split <;> omega
                  rw [e1] at h3
                  exact hrd.rd (news.length + i) j row x u h1 h2 (by rw [Nat.add_mul, Nat.add_assoc]; exact h3)
              exact (hq.mono hgr.size hO).append (hd2.mono hgr.size hO)
end
end Go.Abs
