/- The abstract layer that the proof stands on: no condition. -/
import Derived.Test.YtkfgkkbfipgklaaAbsD
import Derived.Laws.CopyRow
namespace Go.Abs
open Go.RowKit

/-- The list with `v` laid over it from place `k` on. -/
def splice {α : Type} (l : List α) (k : Nat) (v : List α) : List α := l.take k ++ (v ++ l.drop (k + v.length))

theorem splice_get {α : Type} (l : List α) (k : Nat) (v : List α) (h : k + v.length ≤ l.length) (j : Nat) :
    (splice l k v)[j]? = if k ≤ j ∧ j < k + v.length then v[j - k]? else l[j]? := by
  unfold splice
  rw [List.getElem?_append, List.length_take, List.getElem?_append, List.getElem?_drop, List.getElem?_take]
  have e : min k l.length = k := by omega
  rw [e]
  by_cases h1 : j < k
  · rw [if_pos h1, if_pos h1, if_neg (by omega)]
  · rw [if_neg h1]
    by_cases h2 : j - k < v.length
    · rw [if_pos h2, if_pos ⟨by omega, by omega⟩]
    · rw [if_neg h2, if_neg (by omega)]
      congr 1
      omega
theorem splice_length {α : Type} (l : List α) (k : Nat) (v : List α) (h : k + v.length ≤ l.length) : (splice l k v).length = l.length := by
  simp [splice]; omega

theorem setRow_at (w : World) (g : Nat) (cur cs : Array Value) (t : TypeId) (f : Nat × Nat) (h : w.heap[g]? = some (.cells cur t f)) : (w.setRow g cs).heap[g]? = some (.cells cs t f) := by
  simp [World.setRow, Array.getElem?_modify, h]
theorem setRow_grown (w : World) (g : Nat) (cs : Array Value) : w.grownBy (w.setRow g cs) (some g) :=
  ⟨rfl, rfl, rfl, by simp [World.setRow], fun k _ hk => by
    simp only [World.setRow, Array.getElem?_modify]
    rw [if_neg (fun e => hk (by rw [e]))]⟩

section
variable {ro : Option Nat} {P : Program} {c : Cx} {s s' : St} {o : Oper} {d : Option Nat}

theorem run_storeAt {T n : Nat} (hsz : ∀ w, (sizeOf T).run P w = .ok n w) (w : World) (g k : Nat) (v : Value) (cur : Array Value) (t : TypeId) (hv : v.cells.size = n) (h1 : ∀ u ∈ v.cells.toList, u.oneCell' = true)
    (hg : w.heap[g]? = some (.cells cur t (0, 0))) (hfit : k + n ≤ cur.size) :
    (Instr.storeAt T (.pointer (some ⟨g, k, none⟩)) v).run P w = .ok () (w.setRow g (splice cur.toList k v.cells.toList).toArray) := by
  have := run_storeCells_at P g k t v.cells.toList 0 cur w hg (by simp; omega) h1
  simp only [Nat.add_zero, List.append_assoc] at this
  simp only [Instr.storeAt, Instr.sureAddr, storeVar, Sem.run_bind, hsz, Sem.run_pure, Result.andThen_ok, hv, ne_eq, not_true_eq_false, if_false]
  exact this

/-- The cells of a value that is stored. -/
def AV.cells : AV → List AV
  | .pv (.agg ps) => ps.map .pv
  | x => [x]
def AV.cellish : AV → Bool
  | .tup _ => false
  | _ => true

theorem AV.cells_ok {w : World} {O : Nat → Prop} {θ : Nat → Option Value} {x : AV} {v : Value} (h : RdA w O θ x v) (hx : x.cellish = true) (hθ : ∀ id u, θ id = some u → u.oneCell' = true) :
    v.cells.size = x.cells.length ∧ (∀ u ∈ v.cells.toList, u.oneCell' = true) ∧ ∀ (j : Nat) (y : AV) (u : Value), x.cells[j]? = some y → v.cells[j]? = some u → RdA w O θ y u := by
  have single : ∀ (v : Value), v.cells = #[v] → x.cells = [x] → RdA w O θ x v → v.oneCell' = true → (v.cells.size = x.cells.length ∧ (∀ u ∈ v.cells.toList, u.oneCell' = true) ∧ ∀ (j : Nat) (y : AV) (u : Value), x.cells[j]? = some y → v.cells[j]? = some u → RdA w O θ y u) := by
    intro v h1 h2 h3 h4
    rw [h1, h2]
    refine ⟨rfl, by simp [h4], fun j y u hy hu => ?_⟩
    cases j with
    | zero => simp at hy hu; subst hy; subst hu; exact h3
    | succ j => simp at hy
  cases h with
  | pv p v h =>
    by_cases hp : p.one = true
    · have h4 := h.one_ hp
      refine single v ?_ ?_ (.pv p v h) h4
      · cases v <;> first | rfl | simp [Value.oneCell'] at h4
      · cases p <;> first | rfl | simp [PV.one] at hp
    · cases p <;> first | exact absurd rfl hp | skip
      rename_i ps
      obtain ⟨us, rfl, h1, h2, h3⟩ := rd_agg h
      refine ⟨by simp [Value.cells, AV.cells, h1], fun u hu => ?_, fun j y u hy hu => ?_⟩
      · obtain ⟨j, hj⟩ := List.getElem?_of_mem hu
        simp only [Value.cells, Array.getElem?_toList] at hj
        have hj' : j < ps.length := by rw [← h1]; exact (Array.getElem?_eq_some_iff.1 hj).1
        exact (h3 j ps[j] u (List.getElem?_eq_getElem hj') hj).one_ (h2 _ (List.getElem_mem hj'))
      · simp only [AV.cells, List.getElem?_map, Option.map_eq_some_iff] at hy
        obtain ⟨p, hp, rfl⟩ := hy
        exact .pv _ _ (h3 j p u hp hu)
  | ls id v h =>
    have h4 := hθ id v h
    exact single v (by cases v <;> first | rfl | simp [Value.oneCell'] at h4) rfl (.ls id v h) h4
  | le id sz i off g n cap h => exact single _ rfl rfl (.le id sz i off g n cap h) rfl
  | lp id off g h => exact single _ rfl rfl (.lp id off g h) rfl
  | ra id m g n cap h h0 => exact single _ rfl rfl (.ra id m g n cap h h0) rfl
  | cs sz rows v h hc => obtain ⟨a, n, rfl⟩ := hc; exact single _ rfl rfl (.cs sz rows _ h ⟨a, n, rfl⟩) rfl
  | fn f caps us hn h => exact single _ rfl rfl (.fn f caps us hn h) rfl
  | tup xs us hn h => simp [AV.cellish] at hx

theorem op_store_lp {T n : Nat} {x y : Operand} {id k : Nat} {t : TypeId} {cells : List AV} {v : AV} (ho : o.op = .store T x y) (hx : ev s x = some (.lp id k)) (hy : ev s y = some v) (hc : v.cellish = true)
    (hb : look id s.hp = some (.box t cells)) (hT : (oneB P T || aggB P T n) = true) (hn1 : v.cells.length = (bif oneB P T then 1 else n)) (hfit : Nat.ble (k + v.cells.length) cells.length = true) (hd : o.dst = d) (hk : ktB s d = true) :
    OpOk ro P c o s ((s.setBlk id (some (.box t (splice cells k v.cells)))).put d none) :=
  opOk_skip hd (by cases d <;> exact hk) (by rw [ho]; intro k h; cases h) fun a w O θ hs => by
    have h := ev_ok hs hx
    have hv := ev_ok hs hy
    generalize ha : a.eval x = u at h
    generalize hb' : a.eval y = z at hv
    have hsz : ∀ w, (sizeOf T).run P w = .ok v.cells.length w := by
      rw [hn1]
      cases e : oneB P T with
      | true => exact (oneB_spec e).2.1
      | false => rw [e] at hT; exact (aggB_spec (by simpa using hT)).2.1
    cases h with
    | lp _ _ g h =>
      obtain ⟨v', hv', ⟨g', us, he, h1, h2, h3⟩, _⟩ := hs.hp id _ hb
      rw [h] at hv'; cases hv'
      cases he
      obtain ⟨c1, c2, c3⟩ := AV.cells_ok hv hc hs.one
      have hfit' : k + v.cells.length ≤ us.size := by rw [h2]; exact Nat.le_of_ble_eq_true hfit
      have hrun := run_storeAt (P := P) (T := T) hsz w g k z us t c1 c2 h1 hfit'
      refine ⟨w.setRow g (splice us.toList k z.cells.toList).toArray, O, θ, by simp [execOp, ho, ha, hb', hrun], ?_⟩
      have hg := setRow_grown w g (splice us.toList k z.cells.toList).toArray
      have hO : ∀ b, b < w.heap.size → ¬ O b → ¬ O b ∧ (w.setRow g (splice us.toList k z.cells.toList).toArray).heap[b]? = w.heap[b]? := by
        intro b hb1 hb2
        refine ⟨hb2, hg.block b hb1 (fun e => hb2 ?_)⟩
        obtain ⟨v2, hv2, _, hO2⟩ := hs.hp id _ hb
        rw [h] at hv2; cases hv2
        exact (hO2 b (by simpa [blkOf] using e.symm)).1
      have hzl : z.cells.toList.length = v.cells.length := by simpa using c1
      refine hs.upd hb h hg ⟨g, _, rfl, setRow_at w g us _ t (0, 0) h1, ?_, ?_⟩
      · simp only [List.size_toArray]
        rw [splice_length _ _ _ (by simpa [hzl] using hfit'), splice_length _ _ _ (Nat.le_of_ble_eq_true hfit)]
        simpa using h2
      · intro j y u hy hu
        rw [splice_get _ _ _ (Nat.le_of_ble_eq_true hfit)] at hy
        rw [List.getElem?_toArray, splice_get _ _ _ (by simpa [hzl] using hfit'), hzl] at hu
        split at hy
        · rename_i hj; rw [if_pos hj] at hu
          rw [Array.getElem?_toList] at hu
          exact ⟨(c3 _ y u hy hu).mono hg.size hO (fun _ _ e => e), c2 u (Array.mem_toList_iff.2 (Array.mem_of_getElem? hu))⟩
        · rename_i hj; rw [if_neg hj] at hu
          rw [Array.getElem?_toList] at hu
          exact ⟨(h3 j y u hy hu).1.mono hg.size hO (fun _ _ e => e), (h3 j y u hy hu).2⟩

theorem op_store_le {T n : Nat} {x y : Operand} {id sz i k : Nat} {e : TypeId} {rows rows' : List (List PV)} {row : List PV} {v : AV} {ps : List PV} (ho : o.op = .store T x y) (hx : ev s x = some (.le id sz i k)) (hy : ev s y = some v) (hc : pvs v.cells = some ps)
    (hb : look id s.hp = some (.row e sz rows)) (hr : rows[i]? = some row) (hT : (oneB P T || aggB P T n) = true) (hn1 : v.cells.length = (bif oneB P T then 1 else n)) (hfit : Nat.ble (k + v.cells.length) sz = true)
    (hrows : rows.set i (splice row k ps) = rows') (hd : o.dst = d) (hk : ktB s d = true) :
    OpOk ro P c o s ((s.setBlk id (some (.row e sz rows'))).put d none) :=
  opOk_skip hd (by cases d <;> exact hk) (by rw [ho]; intro k h; cases h) fun a w O θ hs => by
    subst hrows
    have h := ev_ok hs hx
    have hv := ev_ok hs hy
    generalize ha : a.eval x = u at h
    generalize hb' : a.eval y = z at hv
    have hsz : ∀ w, (sizeOf T).run P w = .ok v.cells.length w := by
      rw [hn1]
      cases e : oneB P T with
      | true => exact (oneB_spec e).2.1
      | false => rw [e] at hT; exact (aggB_spec (by simpa using hT)).2.1
    have hcel : v.cellish = true := by
      cases v <;> first | rfl | simp [AV.cells, pvs] at hc
    cases h with
    | le _ _ _ _ g m cap h =>
      obtain ⟨v', hv', ⟨us, hown, hrd⟩, hO2⟩ := hs.hp id _ hb
      rw [h] at hv'; cases hv'
      obtain ⟨c1, c2, c3⟩ := AV.cells_ok hv hcel hs.one
      have hvc := pvs_spec hc
      have hpl : ps.length = v.cells.length := by rw [hvc]; simp
      have hzl : z.cells.toList.length = v.cells.length := by simpa using c1
      have hi : i < rows.length := (List.getElem?_eq_some_iff.1 hr).1
      have hrl : row.length = sz := hrd.hz row (List.mem_of_getElem? hr)
      have hkv : k + v.cells.length ≤ sz := Nat.le_of_ble_eq_true hfit
      rcases hown.2 with ⟨h', _⟩ | ⟨g', cap', cur, h', hb0, hg0, hnc, hcm, hcs, htake⟩
      · cases h'
      · simp only [Value.slice.injEq, Option.some.injEq, Addr.mk.injEq, and_true] at h'
        obtain ⟨rfl, hml, rfl⟩ := h'
        have hrange : i * sz + k + v.cells.length ≤ rows.length * sz := by
          have : (i + 1) * sz ≤ rows.length * sz := Nat.mul_le_mul_right sz hi
          rw [Nat.add_mul] at this; omega
        have hcapsz : rows.length * sz ≤ cur.size := Nat.le_trans (Nat.mul_le_mul_right sz hnc) hcs
        have hrun := run_storeAt (P := P) (T := T) hsz w g (i * sz + k) z cur e c1 c2 hg0 (by omega)
        refine ⟨w.setRow g (splice cur.toList (i * sz + k) z.cells.toList).toArray, O, θ, by simp [execOp, ho, ha, hb', hrun], ?_⟩
        have hg := setRow_grown w g (splice cur.toList (i * sz + k) z.cells.toList).toArray
        have hO : ∀ b, b < w.heap.size → ¬ O b → ¬ O b ∧ (w.setRow g (splice cur.toList (i * sz + k) z.cells.toList).toArray).heap[b]? = w.heap[b]? := by
          intro b hb1 hb2
          exact ⟨hb2, hg.block b hb1 (fun e => hb2 (hO2 b (by simpa [blkOf] using e.symm)).1)⟩
        have hfitl : i * sz + k + z.cells.toList.length ≤ cur.toList.length := by rw [hzl]; simp; omega
        refine hs.upd hb h hg ⟨(splice cur.toList (i * sz + k) z.cells.toList).take (rows.length * sz), ⟨?_, ?_⟩, ⟨?_, ?_, ?_, ?_⟩⟩
        · rw [List.length_take, splice_length _ _ _ hfitl, List.length_set]; simp; omega
        · exact .inr ⟨g, cap, _, by rw [List.length_set]; rw [hml], hb0, setRow_at w g cur _ e (0, 0) hg0, by rw [List.length_set]; exact hnc, hcm, by simp only [List.size_toArray]; rw [splice_length _ _ _ hfitl]; simpa using hcs, by rw [List.length_set]⟩
        · rw [List.length_take, splice_length _ _ _ hfitl, List.length_set]; simp; omega
        · intro row' hrow'
          rcases List.mem_or_eq_of_mem_set hrow' with h1 | h1
          · exact hrd.hz row' h1
          · rw [h1, splice_length _ _ _ (by omega)]; exact hrl
        · intro row' hrow' y hy'
          rcases List.mem_or_eq_of_mem_set hrow' with h1 | h1
          · exact hrd.one row' h1 y hy'
          · rw [h1] at hy'
            obtain ⟨j, hj⟩ := List.getElem?_of_mem hy'
            rw [splice_get _ _ _ (by omega)] at hj
            split at hj
            · have hz : ∃ u, z.cells[j - k]? = some u := by
                have := (List.getElem?_eq_some_iff.1 hj).1
                exact ⟨z.cells[j - k]'(by rw [c1]; omega), by simp⟩
              obtain ⟨u, hu⟩ := hz
              have h4 := c3 (j - k) (.pv y) u (by rw [hvc, List.getElem?_map, hj]; rfl) hu
              have h5 := c2 u (Array.mem_toList_iff.2 (Array.mem_of_getElem? hu))
              have h6 := rda_pv h4
              cases h6 <;> first | rfl | simp [Value.oneCell'] at h5
            · exact hrd.one row (List.mem_of_getElem? hr) y (List.mem_of_getElem? hj)
        · intro i' j' row' y u hr' hy' hu
          rw [List.getElem?_take] at hu
          split at hu
          · rename_i hlt
            rw [splice_get _ _ _ hfitl, hzl] at hu
            rw [List.getElem?_set] at hr'
            by_cases hii : i = i'
            · subst hii
              rw [if_pos rfl, if_pos hi] at hr'
              cases hr'
              rw [splice_get _ _ _ (by omega)] at hy'
              by_cases hj : k ≤ j' ∧ j' < k + ps.length
              · rw [if_pos hj] at hy'
                rw [if_pos ⟨by omega, by omega⟩, Array.getElem?_toList] at hu
                have h4 := c3 (j' - k) (.pv y) u (by rw [hvc, List.getElem?_map, hy']; rfl) (by rw [← hu]; congr 1; omega)
                exact (rda_pv h4).mono hg.size hO
              · rw [if_neg hj] at hy'
                rw [if_neg (by omega)] at hu
                refine (hrd.rd i j' row y u hr hy' ?_).mono hg.size hO
                rw [← htake, List.getElem?_take, if_pos hlt]; exact hu
            · rw [if_neg hii] at hr'
              have hi' : i' < rows.length := (List.getElem?_eq_some_iff.1 hr').1
              have hj' : j' < sz := by have := (List.getElem?_eq_some_iff.1 hy').1; rw [hrd.hz row' (List.mem_of_getElem? hr')] at this; exact this
              have hout : ¬ (i * sz + k ≤ i' * sz + j' ∧ i' * sz + j' < i * sz + k + v.cells.length) := by
                rintro ⟨h1, h2⟩
                rcases Nat.lt_or_gt_of_ne hii with h3 | h3
                · have : (i + 1) * sz ≤ i' * sz := Nat.mul_le_mul_right sz h3
                  rw [Nat.add_mul] at this; omega
                · have : (i' + 1) * sz ≤ i * sz := Nat.mul_le_mul_right sz h3
                  rw [Nat.add_mul] at this; omega
              rw [if_neg hout] at hu
              refine (hrd.rd i' j' row' y u hr' hy' ?_).mono hg.size hO
              rw [← htake, List.getElem?_take, if_pos hlt]; exact hu
          · cases hu
end
end Go.Abs
