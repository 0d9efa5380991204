/- The abstract layer that the proof stands on: no condition. -/
import Derived.Test.YtkmaieldmcjbfaaDoorKindWithA2
import Derived.Lib.Join
import Derived.Lib.AppendZeros
import Derived.ProofKit
import Derived.OpenShut
import Derived.LaidMore
import Derived.Stop.Joined
/- An array of a box, as a slice that is copied into. -/
namespace Go.Abs
variable {G : List (Nat × List PV)}
open Go.RowKit
section
variable {ro : Option Nat} {P : Program} {c : Cx G} {s s' : St} {o : Oper} {d : Option Nat}
theorem op_slice_aw {T n e sz id off : Nat} {x : Operand} (ho : o.op = .slice T x none none none) (hx : ev s x = some (.lp id off)) (ht : arrayB P T n e sz = true) (hd : o.dst = d) (hn : dOk s d = true) :
    OpOk ro P c o s (s.put d (some (.aw id off n))) :=
  opOk_value hd hn (by rw [ho]; intro k h; cases h) fun a w O θ hs => by
    obtain ⟨i, t1, t2, t3⟩ := arrayB_spec ht
    have h := ev_ok hs hx
    generalize hv : a.eval x = v at h
    cases h with
    | lp _ _ g h =>
      refine ⟨.slice (some ⟨g, off, none⟩) n n, ?_, .aw _ _ _ g h⟩
      by_cases h0 : n = 0
      · subst h0
        simp [execOp, ho, hv, Instr.sliceAt, run_underlying t1, Instr.sureAddr, Instr.sliceBounds, sizeOf, typeInfo, t2, t3, Addr.add_lit]
      · simp [execOp, ho, hv, Instr.sliceAt, run_underlying t1, Instr.sureAddr, Instr.sliceBounds, sizeOf, typeInfo, t2, t3, Addr.add_lit]
/-- copy into an array of a box. -/
theorem op_copy_aw {T T2 e sz n : Nat} {x y : Operand} {id off : Nat} {t : TypeId} {cells cells' : List AV} {news : List (List PV)} (ho : o.op = .call { callee := .builtin .copy, args := #[x, y], argTypes := #[T, T2] }) (hx : ev s x = some (.aw id off n)) (hb : look id s.hp = some (.box t cells))
    (hy : ev s y = some (.pv (.vs sz news))) (ht : sliceB P T e sz = true) (hfit : Nat.ble (off + n * sz) cells.length = true) (hc : splice cells off (((news.take n).flatten).map .pv) = cells') (hd : o.dst = d) (hn : dOk s d = true) :
    OpOk ro P c o s ((s.setBlk id (some (.box t cells'))).put d (some (.pv (.int .i64 (Nat.min news.length n))))) :=
  opOk_mem (s1 := s.setBlk id (some (.box t cells'))) hd hn (by rw [ho]; intro k h; cases h) fun a w O θ hs => by
    subst hc
    obtain ⟨i, h1, h2, h3⟩ := sliceB_spec ht
    have h := ev_ok hs hx
    have hv := ev_pv hs hy
    generalize ha : a.eval x = u at h
    generalize hay : a.eval y = v at hv
    cases h with
    | aw _ _ _ g h =>
      obtain ⟨v', hv', ⟨g', us, he, b1, b2, b3⟩, hO2⟩ := hs.hp id _ hb
      rw [h] at hv'; cases hv'
      cases he
      have hfit' : off + n * sz ≤ us.size := by rw [b2]; exact Nat.le_of_ble_eq_true hfit
      have idle : Nat.min news.length n = 0 → (Builtin.lenOf v).run P w = .ok news.length w → (Builtin.firstCells sz 0 v).run P w = .ok #[] w →
          ∃ v w' O' θ', (execOp a.eval o).run P w = .ok (.value v) w' ∧ SimAt c (s.setBlk id (some (.box t (splice cells off (((news.take n).flatten).map .pv))))) O' θ' a w' ∧ RdA w' O' θ' (.pv (.int .i64 (Nat.min news.length n))) v := by
        intro h0 h4 h5
        have hr : news.take n = [] := by
          have := List.length_take (i := n) (l := news)
          exact List.eq_nil_of_length_eq_zero (by rw [this, Nat.min_comm]; exact h0)
        refine ⟨goInt 0, w, O, θ, ?_, ?_, by rw [h0]; exact .pv _ _ (.int _ _)⟩
        · simp [execOp, ho, resolve, invoke, builtin, ha, hay, Builtin.copy_, run_underlying h1, h4, h0, sizeOf, typeInfo, h2, h3, h5, storeCells]
        · rw [hr]
          have : splice cells off (([] : List (List PV)).flatten.map AV.pv) = cells := by simp [splice]
          rw [this]
          exact hs.upd hb h (World.grownBy.refl w _) ⟨g, us, rfl, b1, b2, b3⟩
      rcases rd_vs hv with ⟨ad, cap0, rfl, rfl, _, _⟩ | ⟨b, off2, cap, f, rfl, hr⟩
      · exact idle (by simp) (by simp [Builtin.lenOf]) (by cases ad <;> simp [Builtin.firstCells, loadCells, loadCellsFrom])
      · obtain ⟨vs, q1, q2, q3, q4⟩ := rows_of_vs hr
        by_cases h0 : Nat.min news.length n = 0
        · exact idle h0 (by simp [Builtin.lenOf]) (by simp [Builtin.firstCells, loadCells, loadCellsFrom])
        · have hle : Nat.min news.length n * sz ≤ news.length * sz := Nat.mul_le_mul_right _ (Nat.min_le_left _ _)
          have hln : Nat.min news.length n * sz ≤ n * sz := Nat.mul_le_mul_right _ (Nat.min_le_right _ _)
          have hvl : (vs.take (Nat.min news.length n * sz)).length = Nat.min news.length n * sz := by rw [List.length_take, q1.len, Nat.min_eq_left hle]
          have hfl : ((news.take n).flatten).length = Nat.min news.length n * sz := by
            rw [flatten_len (sz := sz) (fun row hr => q1.hz row (List.mem_of_mem_take hr)), List.length_take, Nat.min_comm]
          have hpos : 0 < sz ∨ sz = 0 := by omega
          -- each of the cells
          have hget : ∀ (k : Nat) (p : PV), ((news.take n).flatten)[k]? = some p → ∃ u, vs[k]? = some u ∧ Rd w O p u ∧ p.one = true := by
            intro k p hp
            have hk : k < Nat.min news.length n * sz := by rw [← hfl]; exact (List.getElem?_eq_some_iff.1 hp).1
            have hpos : 0 < sz := by
              rcases Nat.eq_zero_or_pos sz with h | h
              · subst h; simp at hk
              · exact h
            have hq' : k / sz < Nat.min news.length n := Nat.div_lt_of_lt_mul (by rw [Nat.mul_comm]; exact hk)
            have hm : k % sz < sz := Nat.mod_lt _ hpos
            have e1 : k / sz * sz + k % sz = k := by rw [Nat.mul_comm]; exact Nat.div_add_mod k sz
            have hlt : k / sz < news.length := Nat.lt_of_lt_of_le hq' (Nat.min_le_left _ _)
            have hltn : k / sz < n := Nat.lt_of_lt_of_le hq' (Nat.min_le_right _ _)
            have er : news[k / sz]? = some news[k / sz] := List.getElem?_eq_getElem hlt
            have hzr : (news[k / sz]).length = sz := q1.hz _ (List.mem_of_getElem? er)
            have er2 : (news.take n)[k / sz]? = some news[k / sz] := by rw [List.getElem?_take, if_pos hltn]; exact er
            have hp2 : (news[k / sz])[k % sz]? = some p := by
              rw [← flatten_get (fun row hr => q1.hz row (List.mem_of_mem_take hr)) _ _ _ er2 hm, e1]; exact hp
            have hku : k < vs.length := by rw [q1.len]; omega
            exact ⟨vs[k], List.getElem?_eq_getElem hku, q1.rd _ _ _ p _ er hp2 (by rw [e1]; exact List.getElem?_eq_getElem hku), q1.one _ (List.mem_of_getElem? er) p (List.mem_of_getElem? hp2)⟩
          have hf := run_firstCells_some (P := P) w sz (Nat.min news.length n) ⟨b, off2, none⟩ news.length cap _ hvl (fun j u hu => by
            rw [Addr.add_lit]
            rw [List.getElem?_take] at hu
            split at hu
            · exact q2 j u hu
            · cases hu)
          have h1c : ∀ u ∈ vs.take (Nat.min news.length n * sz), u.oneCell' = true := by
            intro u hu
            obtain ⟨k, hk⟩ := List.getElem?_of_mem hu
            have hkl : k < Nat.min news.length n * sz := by have := (List.getElem?_eq_some_iff.1 hk).1; omega
            have hkf : k < ((news.take n).flatten).length := by rw [hfl]; exact hkl
            obtain ⟨u2, g1, g2, g3⟩ := hget k _ (List.getElem?_eq_getElem hkf)
            rw [List.getElem?_take, if_pos hkl, g1] at hk
            cases hk
            exact g2.one_ g3
          have hst := run_storeCells_at P g off t (vs.take (Nat.min news.length n * sz)) 0 us w b1 (by rw [hvl]; omega) h1c
          simp only [Nat.add_zero, hvl] at hst
          have hnew : (us.toList.take off ++ ((vs.take (Nat.min news.length n * sz)) ++ us.toList.drop (off + Nat.min news.length n * sz))).toArray = (splice us.toList off (vs.take (Nat.min news.length n * sz))).toArray := by unfold splice; rw [hvl]
          have hgr := setRow_grown w g (splice us.toList off (vs.take (Nat.min news.length n * sz))).toArray
          have hO : ∀ b, b < w.heap.size → ¬ O b → ¬ O b ∧ (w.setRow g (splice us.toList off (vs.take (Nat.min news.length n * sz))).toArray).heap[b]? = w.heap[b]? := fun b hb1 hb2 =>
            ⟨hb2, hgr.block b hb1 (fun e => hb2 (hO2 b (by simpa [blkOf] using e.symm)).1)⟩
          have hpl : (((news.take n).flatten).map AV.pv).length = Nat.min news.length n * sz := by rw [List.length_map, hfl]
          have hfc : off + (((news.take n).flatten).map AV.pv).length ≤ cells.length := by rw [hpl]; have := Nat.le_of_ble_eq_true hfit; omega
          refine ⟨goInt (Nat.min news.length n), _, O, θ, ?_, hs.upd hb h hgr ⟨g, _, rfl, setRow_at w g us _ t (0, 0) b1, ?_, ?_⟩, .pv _ _ (.int _ _)⟩
          · simp only [execOp, ho, resolve, invoke, builtin, List.map_toArray, List.map_cons, List.map_nil, ha, hay, Sem.run_bind, Sem.run_pure, Result.andThen_ok, Builtin.copy_]
            simp [run_underlying h1, Builtin.lenOf, sizeOf, typeInfo, h2, h3, hf, hst, splice, hvl]
          · simp only [List.size_toArray]
            rw [splice_length _ _ _ (by rw [hvl]; simp; omega), splice_length _ _ _ hfc]
            simpa using b2
          · intro j y u hy hu
            rw [splice_get _ _ _ hfc] at hy
            rw [List.getElem?_toArray, splice_get _ _ _ (by rw [hvl]; simp; omega), hvl] at hu
            rw [hpl] at hy
            split at hy
            · rename_i hj; rw [if_pos hj] at hu
              rw [List.getElem?_map, Option.map_eq_some_iff] at hy
              obtain ⟨p, hp, rfl⟩ := hy
              obtain ⟨u2, g1, g2, g3⟩ := hget _ p hp
              rw [List.getElem?_take, if_pos (by omega), g1] at hu
              cases hu
              exact ⟨.pv _ _ (g2.mono hgr.size hO), g2.one_ g3⟩
            · rename_i hj; rw [if_neg hj] at hu
              rw [Array.getElem?_toList] at hu
              exact ⟨(b3 j y u hy hu).1.mono hgr.size hO (fun _ _ e => e), (b3 j y u hy hu).2⟩
end
def A2.cp {α : Type} (x : A2 α) (l : List α) : A2 α := ⟨(l[0]?).getD x.a0, (l[1]?).getD x.a1⟩
def A3.cp {α : Type} (x : A3 α) (l : List α) : A3 α := ⟨(l[0]?).getD x.a0, (l[1]?).getD x.a1, (l[2]?).getD x.a2⟩
def A4.cp {α : Type} (x : A4 α) (l : List α) : A4 α := ⟨(l[0]?).getD x.a0, (l[1]?).getD x.a1, (l[2]?).getD x.a2, (l[3]?).getD x.a3⟩
end Go.Abs

/- Functions of Go's library, by the contracts of the kit's shelf. -/
namespace Go.Abs
variable {G : List (Nat × List PV)}
open Go.RowKit
theorem grown_of_below {w w' : World} (h : Below w.heap.size w w') : w.grownBy w' none := ⟨h.os, h.tape, h.output, h.size, fun k hk _ => h.block k hk⟩
theorem rd_str {w : World} {O : Nat → Prop} {s : List UInt8} {v : Value} (h : Rd w O (.str s) v) : v = .string ⟨s.toArray⟩ := by cases h; rfl
theorem vs2 {vs : Array Value} (h : vs.size = 2) : ∃ a b, vs = #[a, b] := by
  obtain ⟨l⟩ := vs
  match l, h with
  | [a, b], _ => exact ⟨a, b, rfl⟩
/-- strings.Join. -/
def joinF (xs : List (List UInt8)) (sep : List UInt8) : Option (List UInt8) := if xs.length ≤ 140737488355328 ∧ (Lib.join xs sep).length ≤ 140737488355328 then some (Lib.join xs sep) else none
theorem fn_join {P : Program} {f : Nat} (h0 : ∀ (a : Option Addr) (c : Nat) (sep : ByteArray) (w : World), Calls P f #[.slice a 0 c, .string sep] w fun e w' => e = .returned (.string ⟨#[]⟩) ∧ w' = w)
    (h1 : ∀ (bk o c : Nat) (xs : List ByteArray) (sep : ByteArray) (w : World), (∀ (j : Nat) x, xs[j]? = some x → w.cell? ⟨bk, o + j, none⟩ = some (.string x)) → bk < w.heap.size → xs.length ≤ 140737488355328 → xs.length ≤ c → (Lib.join (xs.map (·.data.toList)) sep.data.toList).length ≤ 140737488355328 →
      Calls P f #[.slice (some ⟨bk, o, none⟩) xs.length c, .string sep] w fun e w' => e = .returned (.string ⟨(Lib.join (xs.map (·.data.toList)) sep.data.toList).toArray⟩) ∧ Below w.heap.size w w')
    {xs : List (List UInt8)} {sep r : List UInt8} (hr : joinF xs sep = some r) : Fn G P f [.vs 1 (xs.map eS), .str sep] [.p (.str r)] := by
  intro w O vs hO _ hsz hrd
  obtain ⟨v0, v1, rfl⟩ := vs2 hsz
  have e0 := hrd 0 _ v0 rfl rfl
  have e1 := rd_str (hrd 1 _ v1 rfl rfl)
  subst e1
  unfold joinF at hr
  split at hr
  · rename_i hb
    cases hr
    rcases rd_vs e0 with ⟨a, cap, rfl, hx, _, _⟩ | ⟨b, off, cap, us, rfl, hb1, hb2, hb3, hb4, hb5, hb6, hb7, hb8⟩
    · have hx' : xs = [] := by simpa using hx
      subst hx'
      refine (h0 a cap _ w).mono ?_
      rintro e w' ⟨rfl, rfl⟩
      exact ⟨_, O, rfl, World.grownBy.refl _ _, fun _ h => h, Rd.str []⟩
    · have hl : (xs.map eS).length = (xs.map fun x => (⟨x.toArray⟩ : ByteArray)).length := by simp
      have hmm : (xs.map fun x => (⟨x.toArray⟩ : ByteArray)).map (·.data.toList) = xs := by
        rw [List.map_map]
        refine (List.map_congr_left fun x _ => ?_).trans (List.map_id xs)
        simp
      rw [hl]
      refine (h1 b off cap (xs.map fun x => (⟨x.toArray⟩ : ByteArray)) ⟨sep.toArray⟩ w ?_ hb2 (by simpa using hb.1) (by simpa using hb3) (by rw [hmm]; simpa using hb.2)).mono ?_
      · intro j x hj
        rw [List.getElem?_map, Option.map_eq_some_iff] at hj
        obtain ⟨y, hy, rfl⟩ := hj
        have hlt : j < xs.length := (List.getElem?_eq_some_iff.1 hy).1
        rw [hb7 j (by simp; omega)]
        have := hb8 j 0 (eS y) (.str y) (by rw [List.getElem?_map, hy]; rfl) rfl
        rw [Nat.mul_one, Nat.add_zero] at this
        rw [rd_str this]
      · rintro e w' ⟨rfl, hB⟩
        refine ⟨_, O, rfl, grown_of_below hB, fun _ h => h, ?_⟩
        rw [hmm]
        exact Rd.str _
  · cases hr
end Go.Abs

/- A row of the call's own, cut short; zeros behind nil; what a nil slice has room for. -/
namespace Go.Abs
variable {G : List (Nat × List PV)}
open Go.RowKit
section
variable {ro : Option Nat} {P : Program} {c : Cx G} {s s' : St} {o : Oper} {d : Option Nat}
end
end Go.Abs
namespace Go.Abs
theorem cp4 {α : Type} (p : List α → Prop) (l : List α) (h : p [] ∧ (∀ a, p [a]) ∧ (∀ a b, p [a, b]) ∧ (∀ a b c, p [a, b, c]) ∧ ∀ a b c d r, p (a :: b :: c :: d :: r)) : p l := by
  match l with
  | [] => exact h.1
  | [a] => exact h.2.1 a
  | [a, b] => exact h.2.2.1 a b
  | [a, b, c] => exact h.2.2.2.1 a b c
  | a :: b :: c :: d :: r => exact h.2.2.2.2 a b c d r
end Go.Abs

/- From the arguments' readings to abstract values; a law's row, out of its contract. -/
namespace Go.Abs
variable {G : List (Nat × List PV)}
open Go.ChangeShapes Go.WideShapes Go.ChangeAt Go.RowKit

section
variable {H : Type} (enc : TypeId × Value → H) (P : Program) (w : World)

/-- What is read at type `T` is one `e y`, with a `y` that is `good`. -/
def DecAt (fuel : Nat) (T : TypeId) {α : Type} (e : α → List PV) (good : α → Prop) : Prop :=
  ∀ (cs : List Value) (x : DataW H × List MemPlace), DataW.trod enc P w 0 (fun _ => true) true fuel T cs = some x → ∃ y, good y ∧ Reads1 w (fun _ => False) cs (e y)

variable {enc P w}
theorem reads1_one {v : Value} {p : PV} (h : Rd w (fun _ => False) p v) (hp : p.one = true) : Reads1 w (fun _ => False) [v] [p] := by
  refine ⟨rfl, by simpa using hp, fun j q u hq hu => ?_⟩
  cases j with
  | zero => simp at hq hu; subst hq; subst hu; exact h
  | succ j => simp at hq

def i64ok (n : Int) : Prop := -9223372036854775808 ≤ n ∧ n ≤ 9223372036854775807
theorem dec_int {fuel T : Nat} (h : P.underlying T = some (.int .i64)) : DecAt enc P w fuel T eI i64ok := fun cs x hx => by
  obtain ⟨n, rfl, _, hw⟩ := DataW.trod_int h hx
  exact ⟨n, bounds_i64 hw, reads1_one (.int _ n) rfl⟩
def strok (s : List UInt8) : Prop := s.length ≤ maxLen
theorem dec_str {fuel T : Nat} (h : P.underlying T = some .string) : DecAt enc P w fuel T eS strok := fun cs x hx => by
  obtain ⟨s, rfl, _, hs⟩ := DataW.trod_string h hx
  refine ⟨s.data.toList, by show s.data.toList.length ≤ maxLen; rw [Array.length_toList]; exact hs, reads1_one ?_ rfl⟩
  have := Rd.str (w := w) (O := fun _ => False) s.data.toList
  simpa using this
def listok {α : Type} (good : α → Prop) (l : List α) : Prop := l.length ≤ maxLen ∧ ∀ y ∈ l, good y

theorem dec_slice {fuel T E sz : Nat} {α : Type} {e : α → List PV} {good : α → Prop} (h : P.underlying T = some (.slice E)) (hsz : P.cellsOf E = sz) (hz : Nat.blt 0 sz = true) (hlen : ∀ y, (e y).length = sz) (hE : ∀ n, n < fuel → DecAt enc P w n E e good) :
    DecAt enc P w fuel T (eL sz e) (listok good) := fun cs x hx => by
  have hz' : 0 < sz := by simpa [Nat.blt_eq] using hz
  rcases DataW.trod_slice h hx with ⟨rfl, _⟩ | ⟨a, len, cap, elems, rest, n, hf, rfl, _, _, h1, h2, h3, h4, h5⟩
  · exact ⟨[], ⟨Nat.zero_le _, by simp⟩, reads1_one (.vs0 sz) rfl⟩
  · have el : ∀ i, i < len → ∃ y cs', good y ∧ w.cells? 0 (a.add (i * sz)) sz = some cs' ∧ Reads1 w (fun _ => False) cs' (e y) := by
      intro i hi
      have h6 := h4 i hi
      rw [hsz] at h6
      obtain ⟨ei, hei⟩ : ∃ ei, elems[i]? = some ei := ⟨elems[i]'(by omega), List.getElem?_eq_getElem (by omega)⟩
      rw [hei] at h6
      obtain ⟨cs', h7, h8⟩ := Option.bind_eq_some_iff.1 h6
      obtain ⟨y, h9, h10⟩ := hE n (by omega) cs' _ h8
      exact ⟨y, cs', h9, h7, h10⟩
    rcases Nat.eq_zero_or_pos len with h0 | h0
    · subst h0
      exact ⟨[], ⟨Nat.zero_le _, by simp⟩, reads1_one (.vsz sz (some a) cap (fun e => by cases e) h2) rfl⟩
    · obtain ⟨f, hfs⟩ : ∃ f : Nat → α, ∀ i, i < len → ∃ cs', good (f i) ∧ w.cells? 0 (a.add (i * sz)) sz = some cs' ∧ Reads1 w (fun _ => False) cs' (e (f i)) := by
        obtain ⟨y0, _⟩ := el 0 h0
        refine ⟨fun i => if hi : i < len then (el i hi).choose else y0, fun i hi => ?_⟩
        simp only [dif_pos hi]
        exact (el i hi).choose_spec
      have hsp : a.spot = none := by
        obtain ⟨cs', _, hc, _⟩ := hfs 0 h0
        obtain ⟨_, hl, hcell⟩ := World.cells?_some hc
        have := hcell 0 hz'
        obtain ⟨v, hv⟩ : ∃ v, cs'[0]? = some v := ⟨cs'[0]'(by omega), List.getElem?_eq_getElem (by omega)⟩
        rw [hv] at this
        simpa [Addr.add] using World.cell?_spot this
      obtain ⟨b, off, sp⟩ := a
      simp only at hsp; subst hsp
      refine ⟨(List.range len).map f, ⟨by simp; omega, fun y hy => ?_⟩, reads1_one ?_ rfl⟩
      · obtain ⟨i, hi, rfl⟩ := List.mem_map.1 hy
        obtain ⟨_, hg, _⟩ := hfs i (by simpa using hi)
        exact hg
      · have hL : (List.map e ((List.range len).map f)).length = len := by simp
        have cellv : ∀ k, k < len * sz → ∃ v, w.cell? ⟨b, off + k, none⟩ = some v ∧ ∀ p, (e (f (k / sz)))[k % sz]? = some p → Rd w (fun _ => False) p v := by
          intro k hk
          have hq : k / sz < len := Nat.div_lt_of_lt_mul (by rw [Nat.mul_comm]; exact hk)
          have hm : k % sz < sz := Nat.mod_lt _ hz'
          obtain ⟨cs', _, hc, hr⟩ := hfs (k / sz) hq
          obtain ⟨_, hl, hcell⟩ := World.cells?_some hc
          have h6 := hcell (k % sz) hm
          have hv : cs'[k % sz]? = some (cs'[k % sz]'(by omega)) := List.getElem?_eq_getElem (by omega)
          refine ⟨cs'[k % sz]'(by omega), ?_, fun p hp => hr.2.2 _ p _ hp hv⟩
          rw [hv] at h6
          have e1 : off + k / sz * sz + k % sz = off + k := by
            have := Nat.div_add_mod k sz
            rw [Nat.mul_comm] at this
            omega
          simp only [Addr.add_lit] at h6
          rw [e1] at h6
          exact h6
        have hus : ∃ us : Nat → Value, ∀ k, k < len * sz → w.cell? ⟨b, off + k, none⟩ = some (us k) ∧ ∀ p, (e (f (k / sz)))[k % sz]? = some p → Rd w (fun _ => False) p (us k) := by
          refine ⟨fun k => if hk : k < len * sz then (cellv k hk).choose else undef, fun k hk => ?_⟩
          simp only [dif_pos hk]
          exact (cellv k hk).choose_spec
        obtain ⟨us, hus⟩ := hus
        have hb : b < w.heap.size := by
          have h6 := (hus 0 (Nat.mul_pos h0 hz')).1
          rcases Nat.lt_or_ge b w.heap.size with h7 | h7
          · exact h7
          · simp [World.cell?, Array.getElem?_eq_none h7] at h6
        have := Rd.vs (w := w) (O := fun _ => False) sz (List.map e ((List.range len).map f)) b off cap us (fun h => h) hb (by rw [hL]; omega) h2 (fun row hr => ?_) (fun row hr c hc => ?_) (fun k hk => ?_) (fun i j row c hi hj => ?_)
        · rw [hL] at this; exact this
        · obtain ⟨y, _, rfl⟩ := List.mem_map.1 hr
          exact hlen y
        · obtain ⟨y, hy, rfl⟩ := List.mem_map.1 hr
          obtain ⟨i, hi, rfl⟩ := List.mem_map.1 hy
          obtain ⟨cs', _, _, hr⟩ := hfs i (by simpa using hi)
          exact hr.2.1 c hc
        · rw [hL] at hk
          exact (hus k hk).1
        · have hi' : i < len := by have := (List.getElem?_eq_some_iff.1 hi).1; rw [hL] at this; exact this
          simp [hi'] at hi
          subst hi
          have hj' : j < sz := by have := (List.getElem?_eq_some_iff.1 hj).1; rw [hlen] at this; exact this
          have h6 := (hus (i * sz + j) (index_lt hi' hj')).2 c
          have e1 : (i * sz + j) / sz = i := by rw [Nat.mul_comm, Nat.mul_add_div hz', Nat.div_eq_of_lt hj', Nat.add_zero]
          have e2 : (i * sz + j) % sz = j := by rw [Nat.mul_comm, Nat.mul_add_mod, Nat.mod_eq_of_lt hj']
          rw [e1, e2] at h6
          exact h6 hj

/-! Structs, part by part. -/
def partsB (P : Program) (T : TypeId) (l : List (TypeId × Nat × Nat)) (n : Nat) : Bool :=
  match P.underlying T with
  | some (.struct fs) => (fs.toList.map (fun f => (f.type, f.offset, P.cellsOf f.type)) == l) && P.cellsOf T == n
  | _ => false
theorem dec_parts {fuel T n : Nat} {l : List (TypeId × Nat × Nat)} {cs : List Value} {x : DataW H × List MemPlace} (h : partsB P T l n = true) (hx : DataW.trod enc P w 0 (fun _ => true) true fuel T cs = some x) :
    ∃ m, m < fuel ∧ cs.length = n ∧ ∀ (i t off sz : Nat), l[i]? = some (t, off, sz) → ∃ y, DataW.trod enc P w 0 (fun _ => true) true m t ((cs.drop off).take sz) = some y := by
  unfold partsB at h
  split at h
  · rename_i fs hu
    simp only [Bool.and_eq_true, beq_iff_eq] at h
    obtain ⟨rfl, rfl⟩ := h
    obtain ⟨xs, m, hf, _, hl, hxs, hp⟩ := DataW.trod_struct hu hx
    refine ⟨m, by omega, hl, fun i t off sz hi => ?_⟩
    rw [List.getElem?_map, Option.map_eq_some_iff] at hi
    obtain ⟨f, hfi, he⟩ := hi
    injection he with e1 e2; injection e2 with e2 e3
    subst e1; subst e2; subst e3
    have hfi' : fs[i]? = some f := by simpa using hfi
    have hlt : i < xs.length := by rw [hxs]; exact (Array.getElem?_eq_some_iff.1 hfi').1
    exact ⟨xs[i], by rw [hp i f hfi']; exact List.getElem?_eq_getElem hlt⟩
  · cases h
theorem reads_nil {cs : List Value} {off : Nat} (h : cs.length = off) : Reads1 w (fun _ => False) (cs.drop off) [] := by
  rw [List.drop_eq_nil_of_le (by omega)]
  exact ⟨rfl, by simp, fun j p u hp => by simp at hp⟩
theorem reads_cons {cs : List Value} {off sz : Nat} {p q : List PV} (h1 : Reads1 w (fun _ => False) ((cs.drop off).take sz) p) (hp : p.length = sz) (h2 : Reads1 w (fun _ => False) (cs.drop (off + sz)) q) : Reads1 w (fun _ => False) (cs.drop off) (p ++ q) := by
  have e : cs.drop off = (cs.drop off).take sz ++ cs.drop (off + sz) := by
    rw [← List.drop_drop, List.take_append_drop]
  rw [e]
  have hl : ((cs.drop off).take sz).length = sz := by rw [h1.1, hp]
  refine ⟨by rw [List.length_append, List.length_append, h1.1, h2.1], fun x hx => ?_, fun j x u hx hu => ?_⟩
  · rcases List.mem_append.1 hx with h | h
    · exact h1.2.1 x h
    · exact h2.2.1 x h
  · rw [List.getElem?_append] at hx hu
    rw [hl] at hu; rw [hp] at hx
    split at hx
    · rename_i hj; rw [if_pos hj] at hu; exact h1.2.2 j x u hx hu
    · rename_i hj; rw [if_neg hj] at hu; exact h2.2.2 _ x u hx hu

def arrB (P : Program) (T : TypeId) (n E sz : Nat) : Bool :=
  match P.underlying T with
  | some (.array m e) => (m == n && e == E) && (P.cellsOf E == sz && P.cellsOf T == n * sz)
  | _ => false
theorem arr_parts {fuel T n E sz : Nat} {cs : List Value} {x : DataW H × List MemPlace} (h : arrB P T n E sz = true) (hx : DataW.trod enc P w 0 (fun _ => true) true fuel T cs = some x) :
    ∃ m, m < fuel ∧ cs.length = n * sz ∧ ∀ i, i < n → ∃ y, DataW.trod enc P w 0 (fun _ => true) true m E ((cs.drop (i * sz)).take sz) = some y := by
  unfold arrB at h
  split at h
  · rename_i m e hu
    simp only [Bool.and_eq_true, beq_iff_eq] at h
    obtain ⟨⟨rfl, rfl⟩, rfl, h4⟩ := h
    obtain ⟨xs, m', hf, _, hl, hxs, hp⟩ := DataW.trod_array hu hx
    refine ⟨m', by omega, by rw [hl, h4], fun i hi => ?_⟩
    exact ⟨xs[i], by rw [hp i hi]; exact List.getElem?_eq_getElem (by omega)⟩
  · cases h
theorem dec_arr4 {fuel T E sz : Nat} {α : Type} {e : α → List PV} {good : α → Prop} (h : arrB P T 4 E sz = true) (hlen : ∀ y, (e y).length = sz) (hE : ∀ n, n < fuel → DecAt enc P w n E e good) :
    DecAt enc P w fuel T (eA4 e) (fun x => good x.a0 ∧ good x.a1 ∧ good x.a2 ∧ good x.a3) := fun cs x hx => by
  obtain ⟨m, hm, hl, hp⟩ := arr_parts h hx
  obtain ⟨_, q0⟩ := hp 0 (by omega)
  obtain ⟨_, q1⟩ := hp 1 (by omega)
  obtain ⟨_, q2⟩ := hp 2 (by omega)
  obtain ⟨_, q3⟩ := hp 3 (by omega)
  obtain ⟨y0, g0, r0⟩ := hE m hm _ _ q0
  obtain ⟨y1, g1, r1⟩ := hE m hm _ _ q1
  obtain ⟨y2, g2, r2⟩ := hE m hm _ _ q2
  obtain ⟨y3, g3, r3⟩ := hE m hm _ _ q3
  refine ⟨⟨y0, y1, y2, y3⟩, ⟨g0, g1, g2, g3⟩, ?_⟩
  have e0 : cs.drop 0 = cs := List.drop_zero
  rw [← e0]
  have := reads_cons (off := 0) (by simpa using r0) (hlen y0) (reads_cons (by simpa using r1) (hlen y1) (reads_cons (by rw [show 0 + sz + sz = 2 * sz by omega]; exact r2) (hlen y2) (reads_cons (by rw [show 0 + sz + sz + sz = 3 * sz by omega]; exact r3) (hlen y3) (reads_nil (by omega)))))
  simpa using this

/-- An argument. -/
theorem dec_arg {T : TypeId} {v : Value} {d : DataW H} {ps : List MemPlace} {α : Type} {e : α → List PV} {good : α → Prop} (hT : ∀ n, DecAt enc P w n T e good) (h : DataW.Trod enc P w 0 (fun _ => true) true T v d ps) : ∃ y, good y ∧ Reads1 w (fun _ => False) v.cells.toList (e y) := by
  obtain ⟨fuel, hf⟩ := h
  exact hT fuel _ _ hf
end
end Go.Abs
namespace Go.Abs
variable {G : List (Nat × List PV)}
theorem reads0 {w : World} {cs : List Value} {p : List PV} (h : Reads1 w (fun _ => False) (cs.drop 0) p) : Reads1 w (fun _ => False) cs p := by simpa using h
end Go.Abs
namespace Go.Abs
variable {G : List (Nat × List PV)}
open Go.ChangeShapes Go.WideShapes Go.ChangeAt Go.RowKit
section
variable {H : Type} {enc : TypeId × Value → H} {P : Program} {w : World}
end
end Go.Abs

/- A law's row, out of its contract. -/
namespace Go.Abs
variable {G : List (Nat × List PV)}
open Go.ChangeShapes Go.WideShapes Go.ChangeAt Go.RowKit

section
variable {H : Type} {enc : TypeId × Value → H} {P : Program}

def readB (P : Program) (ts : List TypeId) : Bool := ts.all fun t => P.readableRec t && decide (t < P.types.size)

theorem trodAll_carry (hl : laidOutB P = true) {W W' : World} (hb : Below W.heap.size W W') : ∀ {ts : List TypeId} {vs : List Value} {ds : List (DataW H)} {ps : List MemPlace}, readB P ts = true → DataW.TrodAll enc P W 0 (fun _ => true) true ts vs ds ps → (∀ x ∈ ps, x.block < W.heap.size) →
    DataW.TrodAll enc P W' 0 (fun b => decide (b < W.heap.size)) true ts vs ds ps
  | [], vs, ds, ps, _, h, _ => by
    obtain ⟨rfl, rfl, rfl⟩ := trodAll_nil h
    rfl
  | t :: ts, vs, ds, ps, hr, h, hlt => by
    obtain ⟨v, vs', d, ds', p, q, rfl, rfl, rfl, h1, h2⟩ := trodAll_cons h
    unfold readB at hr
    rw [List.all_cons] at hr
    simp only [Bool.and_eq_true, decide_eq_true_eq] at hr
    exact ⟨p, q, Below.trod hl hr.1.1 hr.1.2 h1 hb (fun x hx => hlt x (by simp [hx])), trodAll_carry hl hb (by unfold readB; exact hr.2) h2 (fun x hx => hlt x (by simp [hx])), rfl⟩

theorem law_post {f : Func} {s : ChangeSpec} {apart fresh handsOn : Bool} {W W' : World} {args : Array Value} {ds : List (DataW H)} {ps : List MemPlace} {B : TypeId} (hl : laidOutB P = true) (hr : readB P f.params.toList = true) (hvars : s.vars = [])
    (hW : DataW.Whole enc P f.params.toList s.vars apart W args.toList ds [] ps) (hA : DataW.TrodAll enc P W 0 (fun _ => true) true f.params.toList args.toList ds ps) (hg : W.grownBy W' none) (hres : f.resultTypes = #[B]) (hB : P.underlying B = some .bool)
    (hs : s.fn H ds = { results := [.lit (.bool true)], args := ds }) : s.post enc P f apart fresh handsOn false W args (.bool true) W' := by
  have hb : Below W.heap.size W W' := (Below.refl _ W).grown hg (Nat.le_refl _) (by simp)
  have hlt : ∀ x ∈ ps, x.block < W.heap.size := fun x hx => by simpa using hW.lt x hx
  refine ⟨ds, [], ps, [], ps, [], hW, ?_, ?_, ?_, hb.frame _, fun h => by cases h⟩
  · rw [List.append_nil, hs, hres]
    exact trodAll_mk1 (shut_bool hB true)
  · rw [List.append_nil, hs]
    exact trodAll_carry hl hb hr hA hlt
  · rw [List.append_nil, hs, hvars]
    rfl

/-- What the arguments read as. -/
def ArgsRd (W : World) (as : List PV) (args : Array Value) : Prop := args.size = as.length ∧ ∀ (i : Nat) (p : PV) (v : Value), as[i]? = some p → args[i]? = some v → Rd W (fun _ => False) p v

end

def RdAll (W : World) : List PV → List Value → Prop
  | [], [] => True
  | p :: ps, v :: vs => Rd W (fun _ => False) p v ∧ RdAll W ps vs
  | _, _ => False
theorem RdAll.args {W : World} : ∀ {as : List PV} {vs : List Value}, RdAll W as vs → vs.length = as.length ∧ ∀ (i : Nat) (p : PV) (v : Value), as[i]? = some p → vs[i]? = some v → Rd W (fun _ => False) p v
  | [], [], _ => ⟨rfl, fun i p v h => by simp at h⟩
  | p :: ps, v :: vs, h => by
    obtain ⟨h1, h2⟩ := h.2.args
    refine ⟨by simp [h1], fun i q u hq hu => ?_⟩
    cases i with
    | zero => simp at hq hu; subst hq; subst hu; exact h.1
    | succ i => exact h2 i q u (by simpa using hq) (by simpa using hu)
  | [], _ :: _, h | _ :: _, [], h => by simp [RdAll] at h
theorem argsRd_all {W : World} {xs : List PV} {args : Array Value} (h : RdAll W xs args.toList) : ArgsRd W xs args := by
  obtain ⟨h1, h2⟩ := h.args
  exact ⟨by simpa using h1, fun i p v hp hv => h2 i p v hp (by simpa using hv)⟩

/-- A value of one cell, out of its cells. -/
def oneT (P : Program) (T : TypeId) : Bool := match P.underlying T with
  | some .bool | some (.int _) | some .string | some (.slice _) => true
  | _ => false
theorem arg_one {W : World} {P : Program} {base : Nat} {T : TypeId} {v : Value} {p : PV} (h : Reads1 W (fun _ => False) v.cells.toList [p]) (hv : Value.okWide P W .any base T v) (ht : oneT P T = true) : Rd W (fun _ => False) p v := by
  have : v.cells.toList = [v] := by
    unfold oneT at ht
    unfold Value.okWide at hv
    split at hv
    · rename_i hu; rw [hu] at ht; cases ht
    · rename_i hu; rw [hu] at ht; cases ht
    · unfold Cell.okWide at hv
      cases v <;> first | rfl | skip
      all_goals
        exfalso
        revert hv
        split <;> simp_all [Cell.ok]
        try (split <;> simp_all)
  rw [this] at h
  exact h.2.2 0 p v rfl rfl
/-- A struct or array, out of its cells. -/
def aggT (P : Program) (T : TypeId) : Bool := match P.underlying T with
  | some (.struct _) | some (.array _ _) => true
  | _ => false
theorem arg_agg {W : World} {P : Program} {base : Nat} {T : TypeId} {v : Value} {ps : List PV} (h : Reads1 W (fun _ => False) v.cells.toList ps) (hv : Value.okWide P W .any base T v) (ht : aggT P T = true) : Rd W (fun _ => False) (.agg ps) v := by
  have : ∃ cs, v = .agg cs := by
    unfold aggT at ht
    unfold Value.okWide at hv
    split at hv
    · obtain ⟨cs, h, _⟩ := hv; exact ⟨cs, h⟩
    · obtain ⟨cs, h, _⟩ := hv; exact ⟨cs, h⟩
    · rename_i h1 h2
      split at ht
      · rename_i hu; exact absurd hu (h1 _)
      · rename_i hu; exact absurd hu (h2 _ _)
      · cases ht
  obtain ⟨cs, rfl⟩ := this
  have := rd_of_reads1 h
  simpa [Value.cells] using this
end Go.Abs

/- A law's row whose package variables are listed, out of its contract. -/
namespace Go.Abs
variable {G : List (Nat × List PV)}
open Go.ChangeShapes Go.WideShapes Go.ChangeAt Go.RowKit

section
variable {P : Program} {w : World}
/-- What reads as `d` at type `T` is `row`. -/
def ReadsD (P : Program) (w : World) (T : TypeId) (d : DataW Unit) (row : List PV) : Prop :=
  ∀ (fuel : Nat) (cs : List Value) (ps : List MemPlace), DataW.trod (fun _ => ()) P w 0 (fun _ => true) false fuel T cs = some (d, ps) → Reads1 w (fun _ => False) cs row
theorem rdD_str {T : TypeId} (h : P.underlying T = some .string) (s : List UInt8) : ReadsD P w T (.lit (.string s)) [.str s] := fun fuel cs ps hx => by
  obtain ⟨b, rfl, he, _⟩ := DataW.trod_string h hx
  simp only [Prod.mk.injEq, DataW.lit.injEq, Lit.string.injEq] at he
  obtain ⟨rfl, _⟩ := he
  refine reads1_one ?_ rfl
  have := Rd.str (w := w) (O := fun _ => False) b.data.toList
  simpa using this
/-- The parts of an array, one by one. -/
def ReadsAll (P : Program) (w : World) (E : TypeId) : List (DataW Unit) → List (List PV) → Prop
  | [], [] => True
  | d :: ds, r :: rs => ReadsD P w E d r ∧ ReadsAll P w E ds rs
  | _, _ => False
theorem reads_flat {E sz : Nat} (cs : List Value) : ∀ (ds : List (DataW Unit)) (rs : List (List PV)) (k : Nat), ReadsAll P w E ds rs → (∀ r ∈ rs, r.length = sz) → cs.length = (k + ds.length) * sz →
    (∀ i d, ds[i]? = some d → ∃ m ps, DataW.trod (fun _ => ()) P w 0 (fun _ => true) false m E ((cs.drop ((k + i) * sz)).take sz) = some (d, ps)) → Reads1 w (fun _ => False) (cs.drop (k * sz)) rs.flatten
  | [], [], k, _, _, hl, _ => by simpa using reads_nil (w := w) (cs := cs) (off := k * sz) (by simpa using hl)
  | d :: ds, r :: rs, k, h, hz, hl, hp => by
    rw [List.flatten_cons]
    refine reads_cons (sz := sz) ?_ (hz r (by simp)) ?_
    · obtain ⟨m, ps, h0⟩ := hp 0 d rfl
      exact h.1 m _ ps (by simpa using h0)
    · have e : k * sz + sz = (k + 1) * sz := by rw [Nat.add_mul]; omega
      rw [e]
      refine reads_flat cs ds rs (k + 1) h.2 (fun r hr => hz r (by simp [hr])) (by rw [hl]; simp only [List.length_cons]; congr 1; omega) fun i d hi => ?_
      have := hp (i + 1) d (by simpa using hi)
      rw [show k + (i + 1) = k + 1 + i by omega] at this
      exact this
  | [], _ :: _, _, h, _, _, _ | _ :: _, [], _, h, _, _, _ => by simp [ReadsAll] at h
theorem rdD_array {T E n sz : Nat} {ds : List (DataW Unit)} {rs : List (List PV)} (h : arrB P T n E sz = true) (hn : ds.length = n) (hz : ∀ r ∈ rs, r.length = sz) (hd : ReadsAll P w E ds rs) : ReadsD P w T (.agg ds) rs.flatten := fun fuel cs ps hx => by
  unfold arrB at h
  split at h
  · rename_i m e hu
    simp only [Bool.and_eq_true, beq_iff_eq] at h
    obtain ⟨⟨rfl, rfl⟩, rfl, h4⟩ := h
    obtain ⟨xs, m', hf, he, hl, hxs, hp⟩ := DataW.trod_array hu hx
    simp only [Prod.mk.injEq, DataW.agg.injEq] at he
    obtain ⟨rfl, _⟩ := he
    have := reads_flat (sz := P.cellsOf e) cs (xs.map (·.1)) rs 0 hd hz (by rw [hl, h4]; simp [hxs]) fun i d hi => by
      rw [List.getElem?_map, Option.map_eq_some_iff] at hi
      obtain ⟨x, hx, rfl⟩ := hi
      have hlt : i < m := by rw [← hxs]; exact (List.getElem?_eq_some_iff.1 hx).1
      refine ⟨m', x.2, ?_⟩
      have := hp i hlt
      rw [hx] at this
      rw [Nat.zero_add]
      exact this
    simpa using this
  · cases h
/-- A listed variable's block. -/
theorem glob_rd {name : String} {g T : Nat} {d : DataW Unit} {row : List PV} (hg : P.globalNamed name = some g) (hT : (P.globals[g]?).map (·.type) = some T) (hd : ReadsD P w T d row)
    (h : ∃ g t cs fuel p, P.globalNamed name = some g ∧ (P.globals[g]?).map (·.type) = some t ∧ w.var? P name = some cs ∧ DataW.trod (fun _ => ()) P w 0 (fun _ => true) false fuel t cs.toList = some (d, p)) (h0 : 0 < row.length) :
    Rd w (fun _ => False) (.vp row) (.pointer (some ⟨g, 0, none⟩)) := by
  obtain ⟨g', t', cs, fuel, p, h1, h2, h3, h4⟩ := h
  obtain rfl : g = g' := Option.some.inj (hg.symm.trans h1)
  obtain rfl : T = t' := Option.some.inj (hT.symm.trans h2)
  obtain ⟨r1, r2, r3⟩ := hd fuel _ _ h4
  have hcell : ∀ i, w.cell? ⟨g, i, none⟩ = cs[i]? := World.var?_cell hg h3
  have hsz : cs.size = row.length := by simpa using r1
  have hb : g < w.heap.size := by
    rcases Nat.lt_or_ge g w.heap.size with h7 | h7
    · exact h7
    · have := hcell 0
      rw [Array.getElem?_eq_getElem (by omega)] at this
      simp [World.cell?, Array.getElem?_eq_none h7] at this
  refine .vp row g 0 (fun k => cs.getD k undef) (fun h => h) hb r2 (fun k hk => ?_) (fun j q hq => ?_)
  · rw [Nat.zero_add, hcell, Array.getElem?_eq_getElem (by omega)]
    simp [show k < cs.size by omega]
  · have hj : j < row.length := (List.getElem?_eq_some_iff.1 hq).1
    refine r3 j q _ hq ?_
    rw [Array.getElem?_toList, Array.getElem?_eq_getElem (by omega)]
    simp [show j < cs.size by omega]
/-- One of the listed variables. -/
theorem laid_at {laid : List (String × DataW Unit)} {ps : List MemPlace} (h : DataW.LaidVars P w laid ps) : ∀ x ∈ laid, ∃ g t cs fuel p, P.globalNamed x.1 = some g ∧ (P.globals[g]?).map (·.type) = some t ∧ w.var? P x.1 = some cs ∧ DataW.trod (fun _ => ()) P w 0 (fun _ => true) false fuel t cs.toList = some (x.2, p) := by
  induction laid generalizing ps with
  | nil => intro x hx; cases hx
  | cons y l ih =>
    intro x hx
    obtain ⟨g, t, cs, fuel, p, q, h1, h2, h3, h4, h5, _⟩ := h
    rcases List.mem_cons.1 hx with rfl | hx
    · exact ⟨g, t, cs, fuel, p, h1, h2, h3, h4⟩
    · exact ih h5 x hx
theorem laid_atH {laid : List (String × DataW Unit)} (hp : (laid.all fun x => x.2.handleName?.isNone) = true) (h : laidMetH P laid w) : ∀ x ∈ laid, ∃ g t cs fuel p, P.globalNamed x.1 = some g ∧ (P.globals[g]?).map (·.type) = some t ∧ w.var? P x.1 = some cs ∧ DataW.trod (fun _ => ()) P w 0 (fun _ => true) false fuel t cs.toList = some (x.2, p) := by
  rw [MakeChecks.laidMetH_plain _ _ _ hp] at h
  obtain ⟨ps, h, _⟩ := h
  exact laid_at h
end

section
variable {H : Type} {enc : TypeId × Value → H} {P : Program}
theorem law_lifted_laid {C : Checked} {os : Os} {f : FuncId} {fn : Func} {s : ChangeSpec} {B : TypeId} {fresh handsOn : Bool} {L : List (String × DataW Unit)}
    (own : ownKnob C.prog.godebug = none) (started : os.Started) (noInit : C.prog.inits.idxOf? f = none) (hfn : C.prog.funcs[f]? = some fn)
    (witness : ∃ (w : World) (tape : Tape) (i : Input), w.os = os ∧ (w.forCall tape i).Shaped C.prog ∧ i.vars = [] ∧ Input.okWide C.prog (w.forCall tape i) .any w.heap.size f i ∧
      ((s.pre enc C.prog fn [] false (w.forCall tape i).memory i.args ∧ laidMetH C.prog L (w.forCall tape i).memory) ∧ sizedMet enc C.prog fn (OpenSpec.ofChange s) false (w.forCall tape i).memory i.args) ∧ ({} : Assume).holds C.prog (lone (Frame.enter C.prog f i.args .normal) [] (w.forCall tape i)))
    (hl : laidOutB C.prog = true) (hr : readB C.prog fn.params.toList = true) (hvars : s.vars = []) (hres : fn.resultTypes = #[B]) (hB : C.prog.underlying B = some .bool)
    (hs : ∀ ds : List (DataW H), ds.length = fn.params.size → s.fn H ds = { results := [.lit (.bool true)], args := ds })
    (hGL : ∀ W : World, laidMetH C.prog L W → GlobOk G W (fun _ => False))
    (hcall : ∀ (W : World) (base : Nat) (args : Array Value) (ds : List (DataW H)) (ps : List MemPlace), (∀ (j : Nat) t v, fn.params[j]? = some t → args[j]? = some v → Value.okWide C.prog W .any base t v) → DataW.TrodAll enc C.prog W 0 (fun _ => true) true fn.params.toList args.toList ds ps → ∃ as : List PV, ArgsRd W as args ∧ Fn G C.prog f as [.p (.bool true)]) :
    ReturnsInHanded {} C os f .any (fun w args => (s.pre enc C.prog fn [] false w args ∧ laidMetH C.prog L w) ∧ sizedMet enc C.prog fn (OpenSpec.ofChange s) false w args) (s.post enc C.prog fn false fresh handsOn false) := by
  refine returnsInHanded_of_change_and (X := fun w _ => laidMetH C.prog L w) (fun _ _ _ hh h => laidMetH.of_heap hh h) own started noInit hfn witness ?_
  intro W base args ds gs before hval hW _ _ hL _
  have hW' := hW
  obtain ⟨p, q, hA, hV, rfl, hfz, hnd⟩ := hW
  have hV' : gs = [] ∧ q = [] := by rw [hvars] at hV; exact trodVars_none hV
  obtain ⟨rfl, rfl⟩ := hV'
  obtain ⟨as, ⟨h1, h2⟩, h3⟩ := hcall W base args ds p hval hA
  refine (h3 W (fun _ => False) args (fun _ h => h.elim) (hGL W hL) h1 h2).mono ?_
  rintro e W' ⟨v, O', rfl, hg, _, hrt⟩
  have hv : v = .bool true := by
    have : Rd W' O' (.bool true) v := hrt
    cases this; rfl
  subst hv
  have hlen : ∀ {ts : List TypeId} {vs : List Value} {ds : List (DataW H)} {ps : List MemPlace}, DataW.TrodAll enc C.prog W 0 (fun _ => true) true ts vs ds ps → ds.length = ts.length := by
    intro ts
    induction ts with
    | nil => intro vs ds ps h; obtain ⟨_, rfl, _⟩ := trodAll_nil h; rfl
    | cons t ts ih => intro vs ds ps h; obtain ⟨v, vs', d, ds', p, q, rfl, rfl, rfl, h1, h2⟩ := trodAll_cons h; simp [ih h2]
  exact ⟨_, rfl, law_post hl hr hvars (by rw [List.append_nil] at hW'; rw [List.append_nil] at *; exact hW') hA hg hres hB (hs ds (by rw [hlen hA]; simp))⟩
end
end Go.Abs

