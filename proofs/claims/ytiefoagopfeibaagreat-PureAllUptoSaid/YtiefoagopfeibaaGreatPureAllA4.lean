/- The abstract layer that the proof stands on: no condition. -/
import Derived.Test.YtiefoagopfeibaaGreatPureAllA3
import Derived.Lib.ConvBytes
import Derived.Laws.BytesString
import Derived.Lib.Join
import Derived.Lib.AppendZeros
import Derived.Shelf.Strings.Builder1
import Derived.Test.YtiefoagopfeibaaGreatPureAllA2
import Derived.ProofKit
import Derived.OpenShut
import Derived.LaidMore
import Derived.Stop.Joined
import Derived.WideKeyEntry
import Derived.DeepKeys4
import Derived.Shelf.SlSortCmp.NoneTotal
/- A zero value, written out as a constant, stored. -/
namespace Go.Abs
variable {G : List (Nat × List PV)}
open Go.RowKit
section
variable {ro : Option Nat} {P : Program} {c : Cx G} {s s' : St} {o : Oper} {d : Option Nat}
theorem LI {T n : Nat} {x : Operand} {us0 : Array Value} {ps : List PV} {id k : Nat} {t : TypeId} {cells : List AV} (ho : o.op = .store T x (.const (.agg us0))) (hx : ev s x = some (.lp id k)) (hz : czs us0.toList ps)
  (hb : bZ id s.hp = some (.box t cells)) (hT : (kN P T || jW P T n) = true) (hn1 : (AV.pv (.agg ps)).cells.length = (bif kN P T then 1 else n)) (hfit : Nat.ble (k + (AV.pv (.agg ps)).cells.length) cells.length = true) (hd : o.dst = d) (hk : ktB s d = true) :
  dR ro P c o s ((s.setBlk id (some (.box t (splice cells k (AV.pv (.agg ps)).cells)))).put d none) :=
 xc hd (by cases d <;> exact hk) (by rw [ho]; intro k h; cases h) fun a w O θ hs => by
  have h := gF hs hx
  have hv : RdA w O θ (.pv (.agg ps)) (a.eval (.const (.agg us0))) := .pv _ _ (by have h1 := uZ (w := w) (O := O) (nB hz); rw [show us0.toList.toArray = us0 by simp] at h1; exact h1)
  generalize ha : a.eval x = u at h
  generalize hb' : a.eval (.const (.agg us0)) = z at hv
  generalize hve : AV.pv (.agg ps) = v at hv hn1 hfit ⊢
  have hc : v.cellish = true := by rw [← hve]; rfl
  have hsz : ∀ w, (sizeOf T).run P w = .ok v.cells.length w := by
   rw [hn1]
   cases e : kN P T with
   | true => exact (uh e).2.1
   | false => rw [e] at hT; exact (xd (by simpa using hT)).2.1
  cases h with
  | lp _ _ g h =>
   obtain ⟨v', hv', ⟨g', us, he, h1, h2, h3⟩, _⟩ := hs.hp id _ hb
   rw [h] at hv'; cases hv'
   cases he
   obtain ⟨c1, c2, c3⟩ := AV.cells_ok hv hc hs.one
   have hfit' : k + v.cells.length ≤ us.size := by rw [h2]; exact Nat.le_of_ble_eq_true hfit
   have hrun := wC (P := P) (T := T) hsz w g k z us t c1 c2 h1 hfit'
   refine ⟨w.setRow g (splice us.toList k z.cells.toList).toArray, O, θ, by simp [execOp, ho, ha, hb', hrun], ?_⟩
   have hg := rq w g (splice us.toList k z.cells.toList).toArray
   have hO : ∀ b, b < w.heap.size → ¬ O b → ¬ O b ∧ (w.setRow g (splice us.toList k z.cells.toList).toArray).heap[b]? = w.heap[b]? := by
    intro b hb1 hb2
    refine ⟨hb2, hg.block b hb1 (fun e => hb2 ?_)⟩
    obtain ⟨v2, hv2, _, hO2⟩ := hs.hp id _ hb
    rw [h] at hv2; cases hv2
    exact (hO2 b (by simpa [du] using e.symm)).1
   have hzl : z.cells.toList.length = v.cells.length := by simpa using c1
   refine hs.upd hb h hg ⟨g, _, rfl, wZ w g us _ t (0, 0) h1, ?_, ?_⟩
   ·simp only [List.size_toArray]
    rw [eC _ _ _ (by simpa [hzl] using hfit'), eC _ _ _ (Nat.le_of_ble_eq_true hfit)]
    simpa using h2
   ·intro j y u hy hu
    rw [gf _ _ _ (Nat.le_of_ble_eq_true hfit)] at hy
    rw [List.getElem?_toArray, gf _ _ _ (by simpa [hzl] using hfit'), hzl] at hu
    split at hy
    ·rename_i hj; rw [if_pos hj] at hu
     rw [Array.getElem?_toList] at hu
     exact ⟨(c3 _ y u hy hu).mono hg.size hO (fun _ _ e => e), c2 u (Array.mem_toList_iff.2 (Array.mem_of_getElem? hu))⟩
    ·rename_i hj; rw [if_neg hj] at hu
     rw [Array.getElem?_toList] at hu
     exact ⟨(h3 j y u hy hu).1.mono hg.size hO (fun _ _ e => e), (h3 j y u hy hu).2⟩
end
end Go.Abs

/- Bits and quotients of integers; texts and bytes. -/
namespace Go.Abs
variable {G : List (Nat × List PV)}
open Go.RowKit
section
variable {ro : Option Nat} {P : Program} {c : Cx G} {s s' : St} {o : Oper} {d : Option Nat}
end
end Go.Abs

/- Package variables: an array of known elements. -/
namespace Go.Abs
variable {G : List (Nat × List PV)}
open Go.RowKit
section
variable {ro : Option Nat} {P : Program} {c : Cx G} {s s' : St} {o : Oper} {d : Option Nat}
end
end Go.Abs

/- An array of a box, as a slice that is copied into. -/
namespace Go.Abs
variable {G : List (Nat × List PV)}
open Go.RowKit
section
variable {ro : Option Nat} {P : Program} {c : Cx G} {s s' : St} {o : Oper} {d : Option Nat}
theorem LU {T n e sz id off : Nat} {x : Operand} (ho : o.op = .slice T x none none none) (hx : ev s x = some (.lp id off)) (ht : sf P T n e sz = true) (hd : o.dst = d) (hn : dOk s d = true) :
  dR ro P c o s (s.put d (some (.aw id off n))) :=
 cw hd hn (by rw [ho]; intro k h; cases h) fun a w O θ hs => by
  obtain ⟨i, t1, t2, t3⟩ := wq ht
  have h := gF hs hx
  generalize hv : a.eval x = v at h
  cases h with
  | lp _ _ g h =>
   refine ⟨.slice (some ⟨g, off, none⟩) n n, ?_, .aw _ _ _ g h⟩
   by_cases h0 : n = 0
   ·subst h0
    simp [execOp, ho, hv, Instr.sliceAt, run_underlying t1, Instr.sureAddr, Instr.sliceBounds, sizeOf, typeInfo, t2, t3, Addr.add_lit]
   ·simp [execOp, ho, hv, Instr.sliceAt, run_underlying t1, Instr.sureAddr, Instr.sliceBounds, sizeOf, typeInfo, t2, t3, Addr.add_lit]
theorem MV {T T2 e sz n : Nat} {x y : Operand} {id off : Nat} {t : TypeId} {cells cells' : List AV} {news : List (List PV)} (ho : o.op = .call { callee := .builtin .copy, args := #[x, y], argTypes := #[T, T2] }) (hx : ev s x = some (.aw id off n)) (hb : bZ id s.hp = some (.box t cells))
  (hy : ev s y = some (.pv (.vs sz news))) (ht : sliceB P T e sz = true) (hfit : Nat.ble (off + n * sz) cells.length = true) (hc : splice cells off (((news.take n).flatten).map .pv) = cells') (hd : o.dst = d) (hn : dOk s d = true) :
  dR ro P c o s ((s.setBlk id (some (.box t cells'))).put d (some (.pv (.int .i64 (Nat.min news.length n))))) :=
 mi (s1 := s.setBlk id (some (.box t cells'))) hd hn (by rw [ho]; intro k h; cases h) fun a w O θ hs => by
  subst hc
  obtain ⟨i, h1, h2, h3⟩ := gr ht
  have h := gF hs hx
  have hv := mc hs hy
  generalize ha : a.eval x = u at h
  generalize hay : a.eval y = v at hv
  cases h with
  | aw _ _ _ g h =>
   obtain ⟨v', hv', ⟨g', us, he, b1, b2, b3⟩, hO2⟩ := hs.hp id _ hb
   rw [h] at hv'; cases hv'
   cases he
   have hfit' : off + n * sz ≤ us.size := by rw [b2]; exact Nat.le_of_ble_eq_true hfit
   have idle : Nat.min news.length n = 0 → (Builtin.lenOf v).run P w = .ok news.length w → (Builtin.firstCells sz 0 v).run P w = .ok #[] w →
     ∃ v w' O' θ', (execOp a.eval o).run P w = .ok (.value v) w' ∧ SimAt c (s.setBlk id (some (.box t (splice cells off (((news.take n).flatten).map .pv))))) O' θ' a w' ∧ RdA w' O' θ' (.pv (.int .i64 (Nat.min news.length n))) v := by
    intro h0 h4 h5
    have hr : news.take n = [] := by
     have := List.length_take (i := n) (l := news)
     exact List.eq_nil_of_length_eq_zero (by rw [this, Nat.min_comm]; exact h0)
    refine ⟨goInt 0, w, O, θ, ?_, ?_, by rw [h0]; exact .pv _ _ (.int _ _)⟩
    ·simp [execOp, ho, resolve, invoke, builtin, ha, hay, Builtin.copy_, run_underlying h1, h4, h0, sizeOf, typeInfo, h2, h3, h5, storeCells]
    ·rw [hr]
     have : splice cells off (([] : List (List PV)).flatten.map AV.pv) = cells := by simp [splice]
     rw [this]
     exact hs.upd hb h (World.grownBy.refl w _) ⟨g, us, rfl, b1, b2, b3⟩
   rcases BZ hv with ⟨ad, cap0, rfl, rfl, _, _⟩ | ⟨b, off2, cap, f, rfl, hr⟩
   ·exact idle (by simp) (by simp [Builtin.lenOf]) (by cases ad <;> simp [Builtin.firstCells, loadCells, loadCellsFrom])
   ·obtain ⟨vs, q1, q2, q3, q4⟩ := ET hr
    by_cases h0 : Nat.min news.length n = 0
    ·exact idle h0 (by simp [Builtin.lenOf]) (by simp [Builtin.firstCells, loadCells, loadCellsFrom])
    ·have hle : Nat.min news.length n * sz ≤ news.length * sz := Nat.mul_le_mul_right _ (Nat.min_le_left _ _)
     have hln : Nat.min news.length n * sz ≤ n * sz := Nat.mul_le_mul_right _ (Nat.min_le_right _ _)
     have hvl : (vs.take (Nat.min news.length n * sz)).length = Nat.min news.length n * sz := by rw [List.length_take, q1.len, Nat.min_eq_left hle]
     have hfl : ((news.take n).flatten).length = Nat.min news.length n * sz := by
      rw [qD (sz := sz) (fun row hr => q1.hz row (List.mem_of_mem_take hr)), List.length_take, Nat.min_comm]
     have hpos : 0 < sz ∨ sz = 0 := by omega
     -- each of the cells
     have hget : ∀ (k : Nat) (p : PV), ((news.take n).flatten)[k]? = some p → ∃ u, vs[k]? = some u ∧ Rd w O p u ∧ p.one = true := by
      intro k p hp
      have hk : k < Nat.min news.length n * sz := by rw [← hfl]; exact (List.getElem?_eq_some_iff.1 hp).1
      have hpos : 0 < sz := by
       rcases Nat.eq_zero_or_pos sz with h | h
       ·subst h; simp at hk
       ·exact h
      have hq' : k / sz < Nat.min news.length n := Nat.div_lt_of_lt_mul (by rw [Nat.mul_comm]; exact hk)
      have hm : k % sz < sz := Nat.mod_lt _ hpos
      have e1 : k / sz * sz + k % sz = k := by rw [Nat.mul_comm]; exact Nat.div_add_mod k sz
      have hlt : k / sz < news.length := Nat.lt_of_lt_of_le hq' (Nat.min_le_left _ _)
      have hltn : k / sz < n := Nat.lt_of_lt_of_le hq' (Nat.min_le_right _ _)
      have er : news[k / sz]? = some news[k / sz] := List.getElem?_eq_getElem hlt
      have hzr : (news[k / sz]).length = sz := q1.hz _ (List.mem_of_getElem? er)
      have er2 : (news.take n)[k / sz]? = some news[k / sz] := by rw [List.getElem?_take, if_pos hltn]; exact er
      have hp2 : (news[k / sz])[k % sz]? = some p := by
       rw [← qW (fun row hr => q1.hz row (List.mem_of_mem_take hr)) _ _ _ er2 hm, e1]; exact hp
      have hku : k < vs.length := by rw [q1.len]; omega
      exact ⟨vs[k], List.getElem?_eq_getElem hku, q1.rd _ _ _ p _ er hp2 (by rw [e1]; exact List.getElem?_eq_getElem hku), q1.one _ (List.mem_of_getElem? er) p (List.mem_of_getElem? hp2)⟩
     have hf := run_firstCells_some (P := P) w sz (Nat.min news.length n) ⟨b, off2, none⟩ news.length cap _ hvl (fun j u hu => by
      rw [Addr.add_lit]
      rw [List.getElem?_take] at hu
      split at hu
      ·exact q2 j u hu
      ·cases hu)
     have h1c : ∀ u ∈ vs.take (Nat.min news.length n * sz), u.oneCell' = true := by
      intro u hu
      obtain ⟨k, hk⟩ := List.getElem?_of_mem hu
      have hkl : k < Nat.min news.length n * sz := by have := (List.getElem?_eq_some_iff.1 hk).1; omega
      have hkf : k < ((news.take n).flatten).length := by rw [hfl]; exact hkl
      obtain ⟨u2, g1, g2, g3⟩ := hget k _ (List.getElem?_eq_getElem hkf)
      rw [List.getElem?_take, if_pos hkl, g1] at hk
      cases hk
      exact g2.one_ g3
     have hst := run_storeCells_at P g off t (vs.take (Nat.min news.length n * sz)) 0 us w b1 (by rw [hvl]; omega) h1c
     simp only [Nat.add_zero, hvl] at hst
     have hnew : (us.toList.take off ++ ((vs.take (Nat.min news.length n * sz)) ++ us.toList.drop (off + Nat.min news.length n * sz))).toArray = (splice us.toList off (vs.take (Nat.min news.length n * sz))).toArray := by unfold splice; rw [hvl]
     have hgr := rq w g (splice us.toList off (vs.take (Nat.min news.length n * sz))).toArray
     have hO : ∀ b, b < w.heap.size → ¬ O b → ¬ O b ∧ (w.setRow g (splice us.toList off (vs.take (Nat.min news.length n * sz))).toArray).heap[b]? = w.heap[b]? := fun b hb1 hb2 =>
      ⟨hb2, hgr.block b hb1 (fun e => hb2 (hO2 b (by simpa [du] using e.symm)).1)⟩
     have hpl : (((news.take n).flatten).map AV.pv).length = Nat.min news.length n * sz := by rw [List.length_map, hfl]
     have hfc : off + (((news.take n).flatten).map AV.pv).length ≤ cells.length := by rw [hpl]; have := Nat.le_of_ble_eq_true hfit; omega
     refine ⟨goInt (Nat.min news.length n), _, O, θ, ?_, hs.upd hb h hgr ⟨g, _, rfl, wZ w g us _ t (0, 0) b1, ?_, ?_⟩, .pv _ _ (.int _ _)⟩
     ·simp only [execOp, ho, resolve, invoke, builtin, List.map_toArray, List.map_cons, List.map_nil, ha, hay, Sem.run_bind, Sem.run_pure, Result.andThen_ok, Builtin.copy_]
      simp [run_underlying h1, Builtin.lenOf, sizeOf, typeInfo, h2, h3, hf, hst, splice, hvl]
     ·simp only [List.size_toArray]
      rw [eC _ _ _ (by rw [hvl]; simp; omega), eC _ _ _ hfc]
      simpa using b2
     ·intro j y u hy hu
      rw [gf _ _ _ hfc] at hy
      rw [List.getElem?_toArray, gf _ _ _ (by rw [hvl]; simp; omega), hvl] at hu
      rw [hpl] at hy
      split at hy
      ·rename_i hj; rw [if_pos hj] at hu
       rw [List.getElem?_map, Option.map_eq_some_iff] at hy
       obtain ⟨p, hp, rfl⟩ := hy
       obtain ⟨u2, g1, g2, g3⟩ := hget _ p hp
       rw [List.getElem?_take, if_pos (by omega), g1] at hu
       cases hu
       exact ⟨.pv _ _ (g2.mono hgr.size hO), g2.one_ g3⟩
      ·rename_i hj; rw [if_neg hj] at hu
       rw [Array.getElem?_toList] at hu
       exact ⟨(b3 j y u hy hu).1.mono hgr.size hO (fun _ _ e => e), (b3 j y u hy hu).2⟩
end
def A2.cp {α : Type} (x : A2 α) (l : List α) : A2 α := ⟨(l[0]?).getD x.a0, (l[1]?).getD x.a1⟩
def A3.cp {α : Type} (x : A3 α) (l : List α) : A3 α := ⟨(l[0]?).getD x.a0, (l[1]?).getD x.a1, (l[2]?).getD x.a2⟩
def A4.cp {α : Type} (x : A4 α) (l : List α) : A4 α := ⟨(l[0]?).getD x.a0, (l[1]?).getD x.a1, (l[2]?).getD x.a2, (l[3]?).getD x.a3⟩
end Go.Abs

/- Functions of Go's library, by the contracts of the kit's shelf. -/
namespace Go.Abs
variable {G : List (Nat × List PV)}
open Go.RowKit
end Go.Abs

/- A row of the call's own, cut short; zeros behind nil; what a nil slice has room for. -/
namespace Go.Abs
variable {G : List (Nat × List PV)}
open Go.RowKit
section
variable {ro : Option Nat} {P : Program} {c : Cx G} {s s' : St} {o : Oper} {d : Option Nat}
theorem Ja (kk : Nat) (hk : ic s kk = true) {T e sz : Nat} {x y : Operand} {k : IntKind} {n : Int} {id : Nat} {rows rows' : List (List PV)} (ho : o.op = .slice T x none (some y) none) (hx : ev s x = some (.ls id)) (hb : bZ id s.hp = some (.row e sz rows)) (hy : ev s y = some (.pv (.int k n)))
  (ht : sliceB P T e sz = true) (hr : pB rows 0 n = some rows') (hd : o.dst = d) (hn : dOk s d = true) : dR ro P c o s ((s.addAt kk (some id) (.row e sz rows')).put d (some (.ls kk))) :=
 mi (s1 := s.addAt kk (some id) (.row e sz rows')) hd hn (by rw [ho]; intro k h; cases h) fun a w O θ hs => by
  obtain ⟨q0, q1, q2, rfl⟩ := xm hr
  obtain ⟨i, h1, h2, h3⟩ := gr ht
  have h := gF hs hx
  have hi := jR hs hy
  generalize ha : a.eval x = u at h
  cases h with
  | ls _ _ h =>
   obtain ⟨v', hv', ⟨us, hown, hrd⟩, hO2⟩ := hs.hp id _ hb
   rw [h] at hv'; cases hv'
   have hl : ((rows.take n.toNat).drop (0 : Int).toNat).length = n.toNat := by simp; omega
   have hrw : (rows.take n.toNat).drop (0 : Int).toNat = rows.take n.toNat := by simp
   have hrd2 : RowsRd w O sz (rows.take n.toNat) (us.take (n.toNat * sz)) := by
    refine ⟨?_, fun row hr => hrd.hz row (List.mem_of_mem_take hr), fun row hr => hrd.one row (List.mem_of_mem_take hr), fun i j row x u h1 h2 h3 => ?_⟩
    ·have : n.toNat * sz ≤ rows.length * sz := Nat.mul_le_mul_right _ (by omega)
     rw [List.length_take, List.length_take, hrd.len, Nat.min_eq_left this, Nat.min_eq_left (by omega)]
    ·rw [List.getElem?_take] at h1 h3
     split at h1
     ·split at h3
      ·exact hrd.rd i j row x u h1 h2 h3
      ·cases h3
     ·cases h1
   have key : ∃ v, (execOp a.eval o).run P w = .ok (.value v) w ∧ du v = du u ∧ v.oneCell' = true ∧ ownsW w e sz v n.toNat (us.take (n.toNat * sz)) := by
    have htl : (us.take (n.toNat * sz)).length = n.toNat * sz := by
     have : n.toNat * sz ≤ rows.length * sz := Nat.mul_le_mul_right _ (by omega)
     rw [List.length_take, hown.1, Nat.min_eq_left this]
    rcases hown.2 with ⟨rfl, h6⟩ | ⟨g, cap, cur, rfl, _, hg, hnc, hcm, hcs, htk⟩
    ·have hn0 : n = 0 := by omega
     subst hn0
     have b1 := dP (P := P) (w := w) (k := k) (n := 0) (y := 0) (code := .sliceAcap) (by omega) (by omega)
     refine ⟨.slice none 0 0, ?_, rfl, rfl, ?_⟩
     ·simp [execOp, ho, ha, hi, Instr.sliceAt, run_underlying h1, Instr.slice, Instr.sliceBounds, sizeOf, typeInfo, h2, h3, b1]
     ·have : us.take ((0 : Int).toNat * sz) = [] := by simp
      rw [this]
      exact ub w e sz
    ·have b1 := dP (P := P) (w := w) (k := k) (n := n) (y := cap) (code := .sliceAcap) (by omega) (by omega)
     refine ⟨.slice (some ⟨g, 0, none⟩) n.toNat cap, ?_, rfl, rfl, htl, .inr ⟨g, cap, cur, rfl, trivial, hg, by omega, hcm, hcs, ?_⟩⟩
     ·by_cases hc0 : cap = 0
      ·subst hc0
       simp [execOp, ho, ha, hi, Instr.sliceAt, run_underlying h1, Instr.slice, Instr.sliceBounds, sizeOf, typeInfo, h2, h3, b1, Addr.add_lit]
      ·simp [execOp, ho, ha, hi, Instr.sliceAt, run_underlying h1, Instr.slice, Instr.sliceBounds, sizeOf, typeInfo, h2, h3, b1, Addr.add_lit]
     ·rw [← htk, List.take_take, Nat.min_eq_left (Nat.mul_le_mul_right _ (by omega))]
   obtain ⟨v, hrun, hbv, hone, hown2⟩ := key
   have hg := World.grownBy.refl w (du u)
   obtain ⟨O', θ', h4, h5, h6, h7⟩ := hs.addAt (w' := w) (row := du u) (v := v) (b := .row e sz ((rows.take n.toNat).drop (0 : Int).toNat)) kk hk (some id)
    (fun A' e => by cases e; exact ⟨_, _, hb, h, rfl⟩) (fun e => by cases e) hg
    (fun g hg' => by rw [hbv] at hg'; exact ⟨(hO2 g hg').2.1, .inr hg'⟩) hone (fun O' θ' hO' hθ' => by
     rw [hrw]
     refine ⟨us.take (n.toNat * sz), by rw [← hrw, hl]; exact hown2, hrd2.mono (Nat.le_refl _) fun b hb1 hb2 => ⟨fun hh => ?_, rfl⟩⟩
     rcases (hO' b).1 hh with hh | hh
     ·exact hb2 hh
     ·rw [hbv] at hh; exact hb2 (hO2 b hh).1)
   exact ⟨v, w, O', θ', hrun, h7, .ls _ _ h6⟩
theorem Ay (kk : Nat) (hk : ic s kk = true) {T T2 e sz bytes : Nat} {x y : Operand} {k k2 : IntKind} {n : Int} {z : Value} {zs : List PV} {rows : List (List PV)} (ho : o.op = .call { callee := .builtin .append, args := #[x, y], argTypes := #[T, T2] }) (hx : ev s x = some (.pv .nils)) (hy : ev s y = some (.pv (.int k n))) (h0 : 0 < n)
  (hroom : n * bytes ≤ 140737488355328) (ht : sliceB P T e sz = true) (ht2 : P.underlying T2 = some (.int k2)) (hby : nU P e bytes = true) (hby0 : Nat.blt 0 bytes = true) (hz : cJ P e z) (hzs : czs z.cells.toList zs) (hzl : zs.length = sz) (hsz : Nat.blt 0 sz = true) (hrows : List.replicate n.toNat zs = rows)
  (hd : o.dst = d) (hn : dOk s d = true) : dR ro P c o s ((s.addAt kk none (.row e sz rows)).put d (some (.ls kk))) :=
 mi (s1 := s.addAt kk none (.row e sz rows)) hd hn (by rw [ho]; intro k h; cases h) fun a w O θ hs => by
  subst hrows
  obtain ⟨i, h1, h2, h3⟩ := gr ht
  have hb2 : i.bytes = bytes := by simpa [nU, h2] using hby
  have hb1 : 0 < bytes := by simpa [Nat.blt_eq] using hby0
  have hsz' : 0 < sz := by simpa [Nat.blt_eq] using hsz
  obtain ⟨_, i', hi', hz'⟩ := gQ hz w
  rw [h2] at hi'; cases hi'
  obtain ⟨m, rfl⟩ : ∃ m : Nat, n = (m : Int) := ⟨n.toNat, by omega⟩
  have hm0 : 0 < m := by omega
  have hmm : (m : Int) * 1 ≤ (m : Int) * bytes := Int.mul_le_mul_of_nonneg_left (by omega) (by omega)
  have hmb : m * bytes ≤ 140737488355328 := by
   have h : ((m * bytes : Nat) : Int) ≤ 140737488355328 := by rw [Int.natCast_mul]; exact hroom
   omega
  have hvx : a.eval x = .slice none 0 0 := by
   have := mc hs hx
   generalize a.eval x = v at this
   cases this; rfl
  have hrun := Lib.run_append_nil_zeros (P := P) w T T2 o.type e i z k k2 h1 ht2 h2 hz' m hm0 (by omega) (by omega) (by rw [hb2]; omega)
  have hge := grownCap_ge w m 0 e
  have hcm := grownCap_le_maxLen w m 0 e (by unfold maxLen; omega)
  have hzr := nB (w := w) (O := O) hzs
  have hzc : z.cells.size = sz := by have := hzr.1; simp at this; omega
  have hzcs : ∀ k, (Builtin.zeroCells z.cells k).size = k * sz := fun k => by simp [Builtin.zeroCells, hzc]
  have hget : ∀ k, k < m * sz → (Builtin.zeroCells z.cells m)[k]? = z.cells[k % sz]? := fun k hk => by
   rw [Array.getElem?_eq_getElem (by rw [hzcs]; exact hk), Array.getElem?_eq_getElem (by rw [hzc]; exact Nat.mod_lt _ hsz')]
   simp [Builtin.zeroCells, hzc, Nat.mod_lt _ hsz']
  have hg : w.grownBy (w.drew.alloc (.cells (Builtin.zeroCells z.cells m ++ Builtin.zeroCells z.cells (grownCap w m 0 e - m)) e)) none := ⟨rfl, rfl, rfl, by simp, fun k hk _ => Oi w.drew _ k hk⟩
  have hzf : ((Builtin.zeroCells z.cells m).toList).length = m * sz := by rw [Array.length_toList, hzcs]
  obtain ⟨O', θ', h4, h5, h6, h7⟩ := hs.addAt (w' := w.drew.alloc (.cells (Builtin.zeroCells z.cells m ++ Builtin.zeroCells z.cells (grownCap w m 0 e - m)) e)) (row := none) (v := .slice (some ⟨w.heap.size, 0, none⟩) m (grownCap w m 0 e)) (b := .row e sz (List.replicate (m : Int).toNat zs)) kk hk none (by simp) (fun _ => rfl) hg
   (fun g hg => by simp [du] at hg; subst hg; simp) rfl (fun O' θ' hO' _ => by
    refine ⟨(Builtin.zeroCells z.cells m).toList, ⟨by rw [hzf]; simp, .inr ⟨w.heap.size, grownCap w m 0 e, _, by simp, trivial, heap_alloc_new w.drew _, by simp; exact hge, hcm, ?_, ?_⟩⟩, ?_⟩
    ·simp only [Array.size_append, hzcs, ← Nat.add_mul]
     exact Nat.mul_le_mul_right _ (by omega)
    ·simp only [Array.toList_append, List.length_replicate, Int.toNat_natCast]
     rw [← hzf]
     exact List.take_left
    ·refine ⟨by rw [hzf]; simp, fun row hr => by rw [List.eq_of_mem_replicate hr]; exact hzl, fun row hr x hx => by rw [List.eq_of_mem_replicate hr] at hx; exact hzr.2.1 x hx, fun i' j row x u hr hx hu => ?_⟩
     rw [List.getElem?_replicate] at hr
     split at hr
     ·rename_i hi'
      cases hr
      have hj : j < sz := by have := (List.getElem?_eq_some_iff.1 hx).1; omega
      rw [Array.getElem?_toList, hget _ (qC (by simpa using hi') hj), show (i' * sz + j) % sz = j by rw [Nat.mul_comm, Nat.mul_add_mod, Nat.mod_eq_of_lt hj]] at hu
      refine (hzr.2.2 j x u hx (by simpa using hu)).mono hg.size (fun b hb hn => ⟨fun hh => ?_, hg.block b hb (by simp)⟩)
      rcases (hO' b).1 hh with h | h
      ·exact hn h
      ·simp [du] at h; omega
     ·cases hr)
  refine ⟨_, _, O', θ', ?_, h7, .ls _ _ h6⟩
  simp [execOp, ho, resolve, invoke, builtin, hvx, jR hs hy, hrun]
theorem Ai {T e sz : Nat} {x : Operand} (ho : o.op = .call { callee := .builtin .cap, args := #[x], argTypes := #[T] }) (hx : ev s x = some (.pv .nils)) (ht : sliceB P T e sz = true) (hd : o.dst = d) (hn : dOk s d = true) : dR ro P c o s (s.put d (some (.pv (.int .i64 0)))) :=
 cw hd hn (by rw [ho]; intro k h; cases h) fun a w O θ hs => by
  have hvx : a.eval x = .slice none 0 0 := by
   have := mc hs hx
   generalize a.eval x = v at this
   cases this; rfl
  obtain ⟨i, h1, h2, h3⟩ := gr ht
  exact ⟨goInt 0, by simp [execOp, ho, resolve, invoke, builtin, hvx, Builtin.cap_, run_underlying h1], .pv _ _ (.int _ _)⟩
theorem Gv {T e sz : Nat} {x y : Operand} {k : IntKind} (ho : o.op = .slice T x none (some y) none) (hx : ev s x = some (.pv .nils)) (hy : ev s y = some (.pv (.int k 0))) (ht : sliceB P T e sz = true) (hd : o.dst = d) (hn : dOk s d = true) : dR ro P c o s (s.put d (some (.pv .nils))) :=
 cw hd hn (by rw [ho]; intro k h; cases h) fun a w O θ hs => by
  have hvx : a.eval x = .slice none 0 0 := by
   have := mc hs hx
   generalize a.eval x = v at this
   cases this; rfl
  obtain ⟨i, h1, h2, h3⟩ := gr ht
  have b1 := dP (P := P) (w := w) (k := k) (n := 0) (y := 0) (code := .sliceAcap) (by omega) (by omega)
  exact ⟨.slice none 0 0, by simp [execOp, ho, hvx, jR hs hy, Instr.sliceAt, run_underlying h1, Instr.slice, Instr.sliceBounds, sizeOf, typeInfo, h2, h3, b1], .pv _ _ .nils⟩
end
end Go.Abs
namespace Go.Abs
def KY (n : Int) (bytes : Nat) : Option Unit := if 0 < n ∧ n * bytes ≤ 140737488355328 then some () else none
theorem C5 {n : Int} {bytes : Nat} {u : Unit} (h : KY n bytes = some u) : 0 < n ∧ n * bytes ≤ 140737488355328 := by
 unfold KY at h
 split at h
 ·assumption
 ·cases h
theorem cp4 {α : Type} (p : List α → Prop) (l : List α) (h : p [] ∧ (∀ a, p [a]) ∧ (∀ a b, p [a, b]) ∧ (∀ a b c, p [a, b, c]) ∧ ∀ a b c d r, p (a :: b :: c :: d :: r)) : p l := by
 match l with
 | [] => exact h.1
 | [a] => exact h.2.1 a
 | [a, b] => exact h.2.2.1 a b
 | [a, b, c] => exact h.2.2.2.1 a b c
 | a :: b :: c :: d :: r => exact h.2.2.2.2 a b c d r
end Go.Abs
namespace Go.Abs
variable {G : List (Nat × List PV)}
open Go.RowKit
section
variable {ro : Option Nat} {P : Program} {c : Cx G} {s s' : St} {o : Oper} {d : Option Nat}
end
end Go.Abs
namespace Go.Abs
end Go.Abs

/- A box that holds a function which holds that box: a function that calls itself by its own variable. -/
namespace Go.Abs
variable {G : List (Nat × List PV)}
open Go.RowKit
end Go.Abs

/- Calls that hand back a pointer into the caller's box; the complement of a number. -/
namespace Go.Abs
variable {G : List (Nat × List PV)}
open Go.RowKit
section
variable {ro : Option Nat} {P : Program} {c : Cx G} {s s' : St} {o : Oper} {d : Option Nat}
end
end Go.Abs

/- Texts that are built piece by piece: strings.Builder. -/
namespace Go.Abs
variable {G : List (Nat × List PV)}
open Go.RowKit
section
variable {P : Program}
end
theorem ownsW.kept {w w' : World} {e : TypeId} {sz n : Nat} {v : Value} {xs : List Value} {row : Option Nat} (h : ownsW w e sz v n xs) (hg : w.grownBy w' row) (hne : ∀ g, du v = some g → some g ≠ row) : ownsW w' e sz v n xs := by
 refine ⟨h.1, ?_⟩
 rcases h.2 with hn | ⟨g, cap, cur, rfl, _, hgg, rest⟩
 ·exact .inl hn
 ·refine .inr ⟨g, cap, cur, rfl, trivial, ?_, rest⟩
  rw [hg.block g (Array.getElem?_eq_some_iff.1 hgg).1 (hne g rfl)]
  exact hgg
structure BldFr (b : Nat) (v : Value) (w w' : World) : Prop where
 os : w'.os = w.os
 tape : w'.tape = w.tape
 output : w'.output = w.output
 size : w.heap.size ≤ w'.heap.size
 block : ∀ k, k < w.heap.size → k ≠ b → du v ≠ some k → w'.heap[k]? = w.heap[k]?
structure BldAt (w : World) (O : Nat → Prop) (θ : Nat → Option Value) (B : TypeId) (x : List Int) (g : Nat) (p v : Value) : Prop where
 t0 : θ 0 = some (.pointer (some ⟨g, 0, none⟩))
 t1 : θ 1 = some v
 heap : w.heap[g]? = some (.cells #[p, v] B (0, 0))
 self : p = .pointer none ∨ p = .pointer (some ⟨g, 0, none⟩)
 own : ownsW w 5 1 v x.length (x.map (.int .u8))
 og : O g
 ov : ∀ k, du v = some k → O k ∧ k < w.heap.size
end Go.Abs

/- Values that hold rows of the call's own among their cells. -/
namespace Go.Abs
variable {G : List (Nat × List PV)}
open Go.RowKit
structure ReadsA (w : World) (O : Nat → Prop) (θ : Nat → Option Value) (us : List Value) (cells : List AV) : Prop where
 len : us.length = cells.length
 one : ∀ (j : Nat) (u : Value), us[j]? = some u → u.oneCell' = true
 rd : ∀ (j : Nat) (c : AV) (u : Value), cells[j]? = some c → us[j]? = some u → RdA w O θ c u
theorem ReadsA.agg {w : World} {O : Nat → Prop} {θ : Nat → Option Value} {us : List Value} {cells : List AV} (h : ReadsA w O θ us cells) : RdA w O θ (.agg cells) (.agg us.toArray) :=
 .agg _ _ (by simpa using h.len) (fun j u hu => h.one j u (by simpa using hu)) (fun j c u hc hu => h.rd j c u hc (by simpa using hu))
theorem ReadsA.cut {w : World} {O : Nat → Prop} {θ : Nat → Option Value} {us : List Value} {cells : List AV} (h : ReadsA w O θ us cells) (k n : Nat) : ReadsA w O θ ((us.drop k).take n) ((cells.drop k).take n) where
 len := by rw [List.length_take, List.length_take, List.length_drop, List.length_drop, h.len]
 one := fun j u hu => by
  rw [List.getElem?_take] at hu
  split at hu
  ·rw [List.getElem?_drop] at hu; exact h.one _ u hu
  ·cases hu
 rd := fun j c u hc hu => by
  rw [List.getElem?_take] at hc hu
  split at hc
  ·rename_i hj
   rw [if_pos hj, List.getElem?_drop] at hu
   rw [List.getElem?_drop] at hc
   exact h.rd _ c u hc hu
  ·cases hc
theorem ReadsA.splice {w : World} {O : Nat → Prop} {θ : Nat → Option Value} {us vs : List Value} {ps qs : List AV} {k : Nat} (h : ReadsA w O θ us ps) (h' : ReadsA w O θ vs qs) (hk : k + qs.length ≤ ps.length) : ReadsA w O θ (Go.Abs.splice us k vs) (Go.Abs.splice ps k qs) := by
 have hk' : k + vs.length ≤ us.length := by rw [h'.len, h.len]; exact hk
 refine ⟨by rw [eC _ _ _ hk', eC _ _ _ hk]; exact h.len, fun j u hu => ?_, fun j p u hp hu => ?_⟩
 ·rw [gf _ _ _ hk'] at hu
  split at hu
  ·exact h'.one _ u hu
  ·exact h.one _ u hu
 ·rw [gf _ _ _ hk] at hp
  rw [gf _ _ _ hk', h'.len] at hu
  split at hp
  ·rename_i hj; rw [if_pos hj] at hu; exact h'.rd _ p u hp hu
  ·rename_i hj; rw [if_neg hj] at hu; exact h.rd _ p u hp hu
theorem Jz {w : World} {O : Nat → Prop} {θ : Nat → Option Value} {us : List Value} {ps : List PV} (h : Reads1 w O us ps) (h1 : ∀ (j : Nat) (u : Value), us[j]? = some u → u.oneCell' = true) : ReadsA w O θ us (ps.map .pv) where
 len := by simpa using h.1
 one := h1
 rd := fun j c u hc hu => by
  rw [List.getElem?_map, Option.map_eq_some_iff] at hc
  obtain ⟨p, hp, rfl⟩ := hc
  exact .pv _ _ (h.2.2 j p u hp hu)
def Ec (place : List (Nat × Nat)) : List AV → List (Nat × AV) → Option (List AV)
 | cells, [] => some cells
 | cells, (i, v) :: vs => match place[i]? with
  | some (off, size) => bif Nat.beq v.cells.length size && (v.cellish && Nat.ble (off + v.cells.length) cells.length) then Ec place (splice cells off v.cells) vs else none
  | none => none
section
variable {ro : Option Nat} {P : Program} {c : Cx G} {s s' : St} {o : Oper} {d : Option Nat}
theorem sK {k : Nat} (h : s.free.elem k = true) : zz s k = true := by simp only [zz, h, Bool.or_true]
theorem jE {T n : Nat} {x : Operand} {id k : Nat} {t : TypeId} {cells cs : List AV} (ho : o.op = .load T x) (hx : ev s x = some (.lp id k)) (hb : bZ id s.hp = some (.box t cells))
  (hc : (cells.drop k).take n = cs) (hl : cs.length = n) (ht : jW P T n = true) (hd : o.dst = d) (hn : dOk s d = true) :
  dR ro P c o s (s.put d (some (.agg cs))) :=
 cw hd hn (by rw [ho]; intro k h; cases h) fun a w O θ hs => by
  have h := gF hs hx
  generalize hv : a.eval x = u at h
  cases h with
  | lp _ _ g h =>
   obtain ⟨v', hv', ⟨g', us, he, h1, h2, h3⟩, _⟩ := hs.hp id _ hb
   rw [h] at hv'; cases hv'
   cases he
   have hR : ReadsA w O θ us.toList cells := ⟨by simpa using h2, fun j u hu => by
     have hlt : j < cells.length := by rw [← h2]; simpa using (List.getElem?_eq_some_iff.1 hu).1
     exact (h3 j cells[j] u (List.getElem?_eq_getElem hlt) (by simpa using hu)).2, fun j c u hc hu => (h3 j c u hc (by simpa using hu)).1⟩
   have hlen : k + n ≤ us.size ∨ n = 0 := by
    have : ((cells.drop k).take n).length = n := by rw [hc]; exact hl
    rw [List.length_take, List.length_drop, ← h2] at this
    omega
   have hcut := hR.cut k n
   rw [hc] at hcut
   refine ⟨.agg ((us.toList.drop k).take n).toArray, ?_, hcut.agg⟩
   have := kg (P := P) ht w ⟨g, k, none⟩ ((us.toList.drop k).take n) (by simp; omega) (fun j u hu => ?_)
   ·simp [execOp, ho, hv, this]
   ·rw [List.getElem?_take] at hu
    split at hu
    ·rw [List.getElem?_drop] at hu
     rw [Addr.add_lit, cell_of_row w g _ us t (0, 0) h1]
     simpa using hu
    ·cases hu
theorem Ks {place : List (Nat × Nat)} {pf : Nat → Option (Nat × Nat)} (hpf : ∀ i p, place[i]? = some p → pf i = some p) {O : Nat → Prop} {θ : Nat → Option Value} {a : Act} {w : World} (hs : SimAt c s O θ a w) :
  ∀ (parts : List (Nat × Operand)) (xs : List (Nat × AV)) (cells : List AV) (us : Array Value) (r : List AV), EvL w O θ a.eval parts xs → Ec place cells xs = some r → ReadsA w O θ us.toList cells →
  ∃ us', Instr.fill pf us (parts.map fun (i, x) => (i, a.eval x)) = some us' ∧ ReadsA w O θ us'.toList r
 | [], xs, cells, us, r, h1, h2, h3 => by
  cases xs with
  | cons _ _ => cases h1
  | nil =>
  simp [Ec] at h2; subst h2
  exact ⟨us, rfl, h3⟩
 | (i, x) :: parts, xs, cells, us, r, h1, h2, h3 => by
  cases xs with
  | nil => cases h1
  | cons xv vs =>
  obtain ⟨i', v⟩ := xv
  obtain ⟨rfl, hv, hvs⟩ := h1
  simp only [Ec] at h2
  split at h2
  ·rename_i off size hpl
   simp only [cond_eq_ite] at h2
   split at h2
   ·rename_i hc
    simp only [Bool.and_eq_true] at hc
    have hc1 : v.cells.length = size := Nat.eq_of_beq_eq_true hc.1
    have hc2 : off + v.cells.length ≤ cells.length := Nat.le_of_ble_eq_true hc.2.2
    obtain ⟨q1, q2, q3⟩ := AV.cells_ok hv hc.2.1 hs.one
    have hr1 : ReadsA w O θ (a.eval x).cells.toList v.cells := ⟨by simpa using q1, fun j u hu => q2 u (List.mem_of_getElem? hu), fun j c u hc hu => q3 j c u hc (by simpa using hu)⟩
    have hsz : (a.eval x).cells.size = size := by rw [q1, hc1]
    have hus : us.size = cells.length := by have := h3.len; simpa using this
    have hsp := zk (a.eval x).cells off us (by omega)
    obtain ⟨us', e1, e2⟩ := Ks hpf hs parts vs _ ((a.eval x).cells.zipIdx.foldl (fun cs (c, j) => cs.setIfInBounds (off + j) c) us) r hvs h2 (by rw [hsp]; exact h3.splice hr1 hc2)
    refine ⟨us', ?_, e2⟩
    simp only [List.map_cons, Instr.fill, hpf _ _ hpl]
    rw [if_neg (by simp [hsz]; omega)]
    exact e1
   ·cases h2
  ·cases h2
theorem RB {vs : List Value} {ps : List PV} (h : czs vs ps) : ∀ (j : Nat) (u : Value), vs[j]? = some u → u.oneCell' = true := by
 obtain ⟨h1, h2⟩ := yO h
 intro j u hu
 have hlt : j < ps.length := by have := (List.getElem?_eq_some_iff.1 hu).1; omega
 exact (NA (h2 j _ u (List.getElem?_eq_getElem hlt) hu)).2
theorem uf {T : Nat} {parts : List (Nat × Operand)} {place : List (Nat × Nat)} {z : Value} {zs : List PV} {r : List AV} {xs : List (Nat × AV)} (ho : o.op = .build T parts.toArray) (hz : cJ P T z) (hzs : czs z.cells.toList zs) (hpl : gd P T place = true)
  (hx : evs s parts = some xs) (hr : Ec place (zs.map .pv) xs = some r) (hd : o.dst = d) (hn : dOk s d = true) : dR ro P c o s (s.put d (some (.agg r))) :=
 cw hd hn (by rw [ho]; intro k h; cases h) fun a w O θ hs => by
  obtain ⟨fs, hu, hfs⟩ := zj hpl
  obtain ⟨us', h1, h2⟩ := Ks (place := place) (pf := (place[·]?)) (fun _ _ h => h) hs parts xs (zs.map .pv) z.cells r (EvL.of hs hx) hr (Jz (nB hzs) (RB hzs))
  refine ⟨.agg us', ?_, ?_⟩
  ·have hfs' := hfs w
   simp only [bind_pure_comp] at hfs'
   simp [execOp, ho, Instr.build, (gQ hz w).1, run_underlying hu, hfs', h1]
  ·have := h2.agg; simpa using this
end
theorem xh {c : Cx G} {s : St} (id off : Nat) {t : TypeId} {cells : List AV} (hb : bZ id s.hp = some (.box t cells)) : Imp c s (s.setBlk id (some (.box t (cells.set off .any)))) := by
 rintro a w ⟨O, θ, h⟩
 refine ⟨O, θ, ?_⟩
 obtain ⟨v, hv, hbk, _⟩ := h.hp id _ hb
 refine h.upd (w' := w) hb hv (World.grownBy.refl _ _) ?_
 obtain ⟨g, us, rfl, h1, h2, h3⟩ := hbk
 refine ⟨g, us, rfl, h1, by simpa using h2, fun j x u hx hu => ?_⟩
 by_cases hj : off = j
 ·subst hj
  have hlt : off < cells.length := by rw [← h2]; exact (Array.getElem?_eq_some_iff.1 hu).1
  rw [List.getElem?_set_self hlt] at hx
  cases hx
  exact ⟨.any u, (h3 off cells[off] u (List.getElem?_eq_getElem hlt) hu).2⟩
 ·rw [List.getElem?_set_ne hj] at hx
  exact h3 j x u hx hu
end Go.Abs

/- From the arguments' readings to abstract values; a law's row, out of its contract. -/
namespace Go.Abs
variable {G : List (Nat × List PV)}
open Go.ChangeShapes Go.WideShapes Go.ChangeAt Go.RowKit
section
variable {H : Type} (enc : TypeId × Value → H) (P : Program) (w : World)
def SU (fuel : Nat) (T : TypeId) {α : Type} (e : α → List PV) (good : α → Prop) : Prop :=
 ∀ (cs : List Value) (x : DataW H × List MemPlace), DataW.trod enc P w 0 (fun _ => true) true fuel T cs = some x → ∃ y, good y ∧ Reads1 w (fun _ => False) cs (e y)
variable {enc P w}
theorem pY {v : Value} {p : PV} (h : Rd w (fun _ => False) p v) (hp : p.one = true) : Reads1 w (fun _ => False) [v] [p] := by
 refine ⟨rfl, by simpa using hp, fun j q u hq hu => ?_⟩
 cases j with
 | zero => simp at hq hu; subst hq; subst hu; exact h
 | succ j => simp at hq
theorem PB {fuel T : Nat} (h : P.underlying T = some .bool) : SU enc P w fuel T eB (fun _ => True) := fun cs x hx => by
 obtain ⟨b, rfl, _⟩ := DataW.trod_bool h hx
 exact ⟨b, trivial, pY (.bool b) rfl⟩
def sD (n : Int) : Prop := -9223372036854775808 ≤ n ∧ n ≤ 9223372036854775807
theorem Sx {fuel T : Nat} (h : P.underlying T = some (.int .i64)) : SU enc P w fuel T eI sD := fun cs x hx => by
 obtain ⟨n, rfl, _, hw⟩ := DataW.trod_int h hx
 exact ⟨n, bounds_i64 hw, pY (.int _ n) rfl⟩
def sv (s : List UInt8) : Prop := s.length ≤ maxLen
def jD {α : Type} (good : α → Prop) (l : List α) : Prop := l.length ≤ maxLen ∧ ∀ y ∈ l, good y
def QF (P : Program) (T : TypeId) (l : List (TypeId × Nat × Nat)) (n : Nat) : Bool :=
 match P.underlying T with
 | some (.struct fs) => (fs.toList.map (fun f => (f.type, f.offset, P.cellsOf f.type)) == l) && P.cellsOf T == n
 | _ => false
theorem ot {cs : List Value} {off : Nat} (h : cs.length = off) : Reads1 w (fun _ => False) (cs.drop off) [] := by
 rw [List.drop_eq_nil_of_le (by omega)]
 exact ⟨rfl, by simp, fun j p u hp => by simp at hp⟩
theorem cM {cs : List Value} {off sz : Nat} {p q : List PV} (h1 : Reads1 w (fun _ => False) ((cs.drop off).take sz) p) (hp : p.length = sz) (h2 : Reads1 w (fun _ => False) (cs.drop (off + sz)) q) : Reads1 w (fun _ => False) (cs.drop off) (p ++ q) := by
 have e : cs.drop off = (cs.drop off).take sz ++ cs.drop (off + sz) := by
  rw [← List.drop_drop, List.take_append_drop]
 rw [e]
 have hl : ((cs.drop off).take sz).length = sz := by rw [h1.1, hp]
 refine ⟨by rw [List.length_append, List.length_append, h1.1, h2.1], fun x hx => ?_, fun j x u hx hu => ?_⟩
 ·rcases List.mem_append.1 hx with h | h
  ·exact h1.2.1 x h
  ·exact h2.2.1 x h
 ·rw [List.getElem?_append] at hx hu
  rw [hl] at hu; rw [hp] at hx
  split at hx
  ·rename_i hj; rw [if_pos hj] at hu; exact h1.2.2 j x u hx hu
  ·rename_i hj; rw [if_neg hj] at hu; exact h2.2.2 _ x u hx hu
def Uj (P : Program) (T : TypeId) (n E sz : Nat) : Bool :=
 match P.underlying T with
 | some (.array m e) => (m == n && e == E) && (P.cellsOf E == sz && P.cellsOf T == n * sz)
 | _ => false
end
end Go.Abs
namespace Go.Abs
variable {G : List (Nat × List PV)}
theorem yq {w : World} {cs : List Value} {p : List PV} (h : Reads1 w (fun _ => False) (cs.drop 0) p) : Reads1 w (fun _ => False) cs p := by simpa using h
end Go.Abs
namespace Go.Abs
variable {G : List (Nat × List PV)}
open Go.ChangeShapes Go.WideShapes Go.ChangeAt Go.RowKit
section
variable {H : Type} {enc : TypeId × Value → H} {P : Program} {w : World}
end
end Go.Abs

/- A law's row, out of its contract. -/
namespace Go.Abs
variable {G : List (Nat × List PV)}
open Go.ChangeShapes Go.WideShapes Go.ChangeAt Go.RowKit
section
variable {H : Type} {enc : TypeId × Value → H} {P : Program}
def Mq (P : Program) (ts : List TypeId) : Bool := ts.all fun t => P.readableRec t && decide (t < P.types.size)
theorem xZ (hl : laidOutB P = true) {W W' : World} (hb : Below W.heap.size W W') : ∀ {ts : List TypeId} {vs : List Value} {ds : List (DataW H)} {ps : List MemPlace}, Mq P ts = true → DataW.TrodAll enc P W 0 (fun _ => true) true ts vs ds ps → (∀ x ∈ ps, x.block < W.heap.size) →
  DataW.TrodAll enc P W' 0 (fun b => decide (b < W.heap.size)) true ts vs ds ps
 | [], vs, ds, ps, _, h, _ => by
  obtain ⟨rfl, rfl, rfl⟩ := trodAll_nil h
  rfl
 | t :: ts, vs, ds, ps, hr, h, hlt => by
  obtain ⟨v, vs', d, ds', p, q, rfl, rfl, rfl, h1, h2⟩ := trodAll_cons h
  unfold Mq at hr
  rw [List.all_cons] at hr
  simp only [Bool.and_eq_true, decide_eq_true_eq] at hr
  exact ⟨p, q, Below.trod hl hr.1.1 hr.1.2 h1 hb (fun x hx => hlt x (by simp [hx])), xZ hl hb (by unfold Mq; exact hr.2) h2 (fun x hx => hlt x (by simp [hx])), rfl⟩
theorem PZ {f : Func} {s : ChangeSpec} {apart fresh handsOn : Bool} {W W' : World} {args : Array Value} {ds : List (DataW H)} {ps : List MemPlace} {B : TypeId} (hl : laidOutB P = true) (hr : Mq P f.params.toList = true) (hvars : s.vars = [])
  (hW : DataW.Whole enc P f.params.toList s.vars apart W args.toList ds [] ps) (hA : DataW.TrodAll enc P W 0 (fun _ => true) true f.params.toList args.toList ds ps) (hg : W.grownBy W' none) (hres : f.resultTypes = #[B]) (hB : P.underlying B = some .bool)
  (hs : s.fn H ds = { results := [.lit (.bool true)], args := ds }) : s.post enc P f apart fresh handsOn false W args (.bool true) W' := by
 have hb : Below W.heap.size W W' := (Below.refl _ W).grown hg (Nat.le_refl _) (by simp)
 have hlt : ∀ x ∈ ps, x.block < W.heap.size := fun x hx => by simpa using hW.lt x hx
 refine ⟨ds, [], ps, [], ps, [], hW, ?_, ?_, ?_, hb.frame _, fun h => by cases h⟩
 ·rw [List.append_nil, hs, hres]
  exact trodAll_mk1 (shut_bool hB true)
 ·rw [List.append_nil, hs]
  exact xZ hl hb hr hA hlt
 ·rw [List.append_nil, hs, hvars]
  rfl
def P4 (W : World) (asx : List PV) (args : Array Value) : Prop := args.size = asx.length ∧ ∀ (i : Nat) (p : PV) (v : Value), asx[i]? = some p → args[i]? = some v → Rd W (fun _ => False) p v
end
def RdAll (W : World) : List PV → List Value → Prop
 | [], [] => True
 | p :: ps, v :: vs => Rd W (fun _ => False) p v ∧ RdAll W ps vs
 | _, _ => False
theorem RdAll.args {W : World} : ∀ {asx : List PV} {vs : List Value}, RdAll W asx vs → vs.length = asx.length ∧ ∀ (i : Nat) (p : PV) (v : Value), asx[i]? = some p → vs[i]? = some v → Rd W (fun _ => False) p v
 | [], [], _ => ⟨rfl, fun i p v h => by simp at h⟩
 | p :: ps, v :: vs, h => by
  obtain ⟨h1, h2⟩ := h.2.args
  refine ⟨by simp [h1], fun i q u hq hu => ?_⟩
  cases i with
  | zero => simp at hq hu; subst hq; subst hu; exact h.1
  | succ i => exact h2 i q u (by simpa using hq) (by simpa using hu)
 | [], _ :: _, h | _ :: _, [], h => by simp [RdAll] at h
theorem MY {W : World} {xs : List PV} {args : Array Value} (h : RdAll W xs args.toList) : P4 W xs args := by
 obtain ⟨h1, h2⟩ := h.args
 exact ⟨by simpa using h1, fun i p v hp hv => h2 i p v hp (by simpa using hv)⟩
def UB (P : Program) (T : TypeId) : Bool := match P.underlying T with
 | some .bool | some (.int _) | some .string | some (.slice _) => true
 | _ => false
theorem Js {W : World} {P : Program} {base : Nat} {T : TypeId} {v : Value} {p : PV} (h : Reads1 W (fun _ => False) v.cells.toList [p]) (hv : Value.okWide P W .any base T v) (ht : UB P T = true) : Rd W (fun _ => False) p v := by
 have : v.cells.toList = [v] := by
  unfold UB at ht
  unfold Value.okWide at hv
  split at hv
  ·rename_i hu; rw [hu] at ht; cases ht
  ·rename_i hu; rw [hu] at ht; cases ht
  ·unfold Cell.okWide at hv
   cases v <;> first | rfl | skip
   all_goals
    exfalso
    revert hv
    split <;> simp_all [Cell.ok]
    try (split <;> simp_all)
 rw [this] at h
 exact h.2.2 0 p v rfl rfl
end Go.Abs

/- A law's row whose package variables are listed, out of its contract. -/
namespace Go.Abs
variable {G : List (Nat × List PV)}
open Go.ChangeShapes Go.WideShapes Go.ChangeAt Go.RowKit
section
variable {P : Program} {w : World}
end
section
variable {H : Type} {enc : TypeId × Value → H} {P : Program}
end
end Go.Abs

/- Functions that are handed yield on; shifts; maps in boxes that are written no more. -/
namespace Go.Abs
variable {G : List (Nat × List PV)}
open Go.RowKit
def ItF (G : List (Nat × List PV)) (P : Program) (f : FuncId) (m : Nat) (args : Nat → List PV) (rows : List (List PV)) (sp k0 k1 : Nat) (res : List PV) : Prop :=
 ∀ (l : Nat) (J : Nat → (Nat → Prop) → (Nat → Prop) → World → Prop) (_ : ∀ {k : Nat} {O I : Nat → Prop} {w : World} {O' I' : Nat → Prop} {w' : World}, J k O I w → Stp O I w O' I' w' → J k O' I' w') (_ : ∀ {k : Nat} {O I : Nat → Prop} {w : World}, J k O I w → GlobOk G w O)
  (w : World) (O I : Nat → Prop) (vs : Array Value), (∀ g, O g → g < w.heap.size) → (∀ g, I g → O g) → vs.size = (args l).length →
  (∀ (i : Nat) (p : PV) (v : Value), (args l)[i]? = some p → vs[i]? = some v → Rd w O p v) → JP P l m rows sp J → J k0 O I w →
  Calls P f vs w fun e w' => ∃ v O', e = .returned v ∧ J k1 O' I w' ∧ Rel O I w O' w' ∧ RdA w' O' (fun _ => none) (J9 (res.map .pv)) v
structure ItFx (c : Cx G) (w : World) (O I : Nat → Prop) : Prop where
 w0 : c.w0 = w
 X : c.X = I
 K : c.K = I
 L : c.L = fun g => O g ∧ ¬ I g
def OJ (P : Program) (fn : Func) (c : Cx G) (w : World) (O I : Nat → Prop) (k : Nat) (res : List PV) : Exit → Act → World → Prop :=
 bodyPostM (FF none) 0 P fn fun e w' => ∃ v O', e = .returned v ∧ c.J k O' I w' ∧ Rel O I w O' w' ∧ RdA w' O' (fun _ => none) (J9 (res.map .pv)) v
theorem Lh {P : Program} {f : FuncId} {fn : Func} {code : Code} {n m : Nat} {args : Nat → List PV} {rows : List (List PV)} {sp k0 k1 : Nat} {res : List PV} (hf : P.funcs[f]? = some fn) (hb : fn.body = some code) (hn : fn.ntmps = n) (hl : ∀ l, Nat.ble (args l).length n = true)
  (h : ∀ l (c : Cx G) w O I, ItCx P l m rows sp c → ItFx c w O I → (∀ g, I g → O g) → AW none P c code (OJ P fn c w O I k1 res) { n := n, fr := tK 0 (args l), hp := [], next := 0, ys := k0 }) : ItF G P f m args rows sp k0 k1 res := by
 intro l J Jst JG w O I vs hO hI hsz hrd hy hJ
 refine (callsIn_wide (n := 0)).1 (callsIn_of_wp_marks (F := FF none) hf hb trivial ?_)
 have hl' : (args l).length ≤ n := Nat.le_of_ble_eq_true (hl l)
 let c : Cx G := { w0 := w, L := fun g => O g ∧ ¬ I g, X := I, K := I, J := J, Jst := Jst, JG := JG, KX := fun _ h => h, t0 := #[] }
 refine h l c w O I ⟨hy, fun g hg => hg⟩ ⟨rfl, rfl, rfl, rfl⟩ hI _ w ?_
 refine ⟨O, fun _ => none, by simp [hn]; omega, .nil, ?_, fun id b hb => (by simp [bZ] at hb), fun i j bi bj vi vj g hi => (by simp [bZ] at hi), fun id v hv => (by cases hv), fun k hk => (by cases hk), fun id v hv => (by cases hv), hO, ⟨rfl, rfl, rfl, Nat.le_refl _, fun _ _ _ => rfl⟩, hI, fun g hg => hO g (hI g hg), fun g hg => hO g hg.1, fun d hd => (by cases hd), fun g hg _ => ?_, fun t ht => (by cases ht), ?_⟩
 ·intro t x hx
  obtain ⟨p, rfl, _, hp⟩ := sJ (args l) 0 t x hx
  have hp' : (args l)[t]? = some p := by simpa using hp
  have ht : t < vs.size := by rw [hsz]; exact (List.getElem?_eq_some_iff.1 hp').1
  have hv : vs[t]? = some vs[t] := by simp [ht]
  have : (vs ++ Array.replicate (fn.ntmps - vs.size) undef).getD t undef = vs[t] := by
   simp [Array.getElem?_append, ht]
  rw [this]
  exact .pv _ _ (hrd t p _ hp' hv)
 ·by_cases h1 : I g
  ·exact .inl h1
  ·exact .inr ⟨hg, h1⟩
 ·refine Jst hJ ⟨rfl, rfl, rfl, Nat.le_refl _, fun _ _ _ => rfl, fun g h => .inl h, fun g h _ => h, hO, fun g hI => ?_⟩
  rcases hI with hI | ⟨id, b, v, h1, _⟩ | ⟨d, hd, _⟩
  ·exact .inl hI
  ·simp [bZ] at h1
  ·cases hd
section
variable {ro : Option Nat} {P : Program} {c : Cx G} {s s' : St} {o : Oper} {d : Option Nat}
theorem KZ {fn : Func} {k : Nat} {w0 : World} {O0 I : Nat → Prop} {rvs : List ResultVar} {res : List PV} {e : Exit} (hc : ItFx c w0 O0 I) (hI : ∀ g, I g → O0 g) (hk : s.ys = k) (hr : fn.results = rvs.toArray) (h : RWs P s rvs (res.map .pv)) (he : e = .ret ∨ e = .normal) :
  iK c (OJ P fn c w0 O0 I k res) e s := by
 rintro a w ⟨O, θ, hs⟩
 have key : LeavesInM (FF none) 0 P fn a.tmps (fun e w' => ∃ v O', e = .returned v ∧ c.J k O' I w' ∧ Rel O0 I w0 O' w' ∧ RdA w' O' (fun _ => none) (J9 (res.map .pv)) v) a.defers .returning w := by
  refine oD a.defers a w rfl hs fun a' w' ht hs2 => ?_
  obtain ⟨us, h1, h2, h3⟩ := h.run hs2
  rw [ht] at h1
  obtain ⟨q1, q2, q3, q4⟩ := hc
  have he := hs2.ext
  rw [q1, q4] at he
  have hrd : ∀ (i : Nat) (p : PV) (u : Value), res[i]? = some p → us[i]? = some u → Rd w' O p u := fun i p u hp hu => js (h3 i (.pv p) u (by rw [List.getElem?_map, hp]; rfl) hu)
  refine ⟨_, ta hr h1, _, O, rfl, ?_, ⟨he.os, he.tape, he.output, he.size, fun b hb hn => he.block b hb (fun h => ?_), fun g hg => ?_, fun g h1 h2 => hs2.xo g (by rw [q2]; exact h2), hs2.olt⟩, ?_⟩
  ·rw [← hk]
   exact c.Jst hs2.jn ⟨rfl, rfl, rfl, Nat.le_refl _, fun _ _ _ => rfl, fun g h => .inl h, fun g h _ => h, hs2.olt, fun g hg => .inl (.inl (by rw [q3]; exact hg))⟩
  ·rcases hn with hn | hn
   ·exact hn h.1
   ·exact h.2 hn
  ·rcases Nat.lt_or_ge g w0.heap.size with hlt | hge
   ·rcases hs2.oc g hg (by rw [q1]; exact hlt) with h5 | h5
    ·rw [q2] at h5; exact .inl (hI g h5)
    ·rw [q4] at h5; exact .inl h5.1
   ·exact .inr hge
  ·match res, us, h2, hrd with
   | [r], [u], _, h3 => exact .pv _ _ (h3 0 r u rfl rfl)
   | [], [], _, h3 => exact .tup [] #[] rfl (by simp)
   | r :: r' :: rs, u :: u' :: us, h2, h3 =>
    refine .tup _ _ (by simpa using h2) (fun i r u hr hu => ?_)
    rw [show AV.pv _ :: List.map AV.pv (r' :: rs) = List.map AV.pv (_ :: r' :: rs) from rfl, List.getElem?_map, Option.map_eq_some_iff] at hr
    obtain ⟨p, hp, rfl⟩ := hr
    exact .pv _ _ (h3 i p u hp (by simpa using hu))
 rcases he with rfl | rfl
 ·exact key
 ·exact key
theorem Dc {args : Nat → List PV} {fo : Operand} {xs : List Operand} {ts : Array TypeId} {f l m sp k1 : Nat} {rows : List (List PV)} {res : List PV} (hc : ItCx P l m rows sp c) (ho : o.op = .call { callee := .value fo, args := xs.toArray, argTypes := ts }) (hf : ev s fo = some (.pv (.fn f []))) (hx : evl s xs = some ((args l).map .pv))
  (hB : fu P f = true) (h : ItF G P f m args rows sp s.ys k1 res) (hd : o.dst = d) (hn : dOk s d = true) : dR ro P c o s ({ s with ys := k1 }.put d (some (J9 (res.map .pv)))) := by
 rintro a w ⟨O, θ, hs⟩ K Q hK
 obtain ⟨e1, e2⟩ := yx hs hx
 have hfv := mc hs hf
 generalize hfa : a.eval fo = fv at hfv
 cases hfv with
 | fn _ _ us hn' hh =>
  refine ⟨fun f _ => trivial, ?_⟩
  have hus : us = #[] := by
   have : us.size = 0 := hn'
   exact Array.size_eq_zero_iff.1 this
  subst hus
  have hrun : (execOp a.eval o).run P w = .ok (.enter f ((xs.map a.eval).toArray)) w := by
   simp [execOp, ho, resolve, Deferred.ofValue, hfa, invoke, rK hB]
  rw [Oper.semAt_plain _ _ _ (by rw [ho]; intro k h; cases h), hrun]
  refine ⟨fun h => by simp [FF, Fence.wide] at h, ?_⟩
  have hI : c.J s.ys O (fun g => vn c s θ a.defers g ∧ O g) w := c.Jst hs.jn ⟨rfl, rfl, rfl, Nat.le_refl _, fun _ _ _ => rfl, fun g h => .inl h, fun g h _ => h, hs.olt, fun g h => .inl h.1⟩
  have hcall := h l c.J c.Jst c.JG w O (fun g => vn c s θ a.defers g ∧ O g) (xs.map a.eval).toArray hs.olt (fun g h => h.2) (by have := e1; simp at this; simp [this]) (fun i p v hp hv => by
   exact js (e2 i (.pv p) v (by rw [List.getElem?_map, hp]; rfl) (by simpa using hv))) hc.y hI
  refine CallsIn.mono (callsIn_wide (n := 0 - 1).2 hcall) ?_
  rintro e w' ⟨v, O', rfl, hJ, hrel, hr⟩
  have hO := hrel.stp_hp
  have hmine : ∀ g, vn c s θ a.defers g → O g := by
   intro g hg
   rcases hg with hg | ⟨id, b, v, h1, h2, h3⟩ | ⟨d', h1, h2⟩
   ·exact hs.xo g (c.KX g hg)
   ·obtain ⟨v', hv', _, hgv⟩ := hs.hp id b h1
    rw [h2] at hv'; cases hv'
    exact (hgv g h3).1
   ·obtain ⟨D, rfl, _, hOD, _⟩ := hs.marks d' h1
    cases h2; exact hOD
  have h1 : SimAt c { s with ys := k1 } O' θ a w' := by
   refine ⟨hs.size, hs.df, fun t x hx => (hs.fr t x hx).mono hrel.size hO (fun _ _ e => e), fun id b hb => ?_, hs.inj, hs.dom, hs.flt, hs.one, hrel.olt, ⟨hrel.os.trans hs.ext.os, hrel.tape.trans hs.ext.tape, hrel.output.trans hs.ext.output, Nat.le_trans hs.ext.size hrel.size, fun b hb hL => ?_⟩, fun g hg => hrel.o2 g (hs.xo g hg) ⟨.inl (hc.xk g hg), hs.xo g hg⟩, hs.xlt, hs.llt, fun d' hd' => ?_, fun g hg hlt => ?_, hs.kp, c.Jst hJ ⟨rfl, rfl, rfl, Nat.le_refl _, fun _ _ _ => rfl, fun g h => .inl h, fun g h _ => h, hrel.olt, fun g h => .inl ⟨h, hmine g h⟩⟩⟩
   ·obtain ⟨v, hv, hbo, hgv⟩ := hs.hp id b hb
    refine ⟨v, hv, hbo.mono hrel.size hO (fun _ _ e => e) (fun g hgg => hrel.block g (hgv g hgg).2.1 (.inr ⟨.inr (.inl ⟨id, b, v, hb, hv, hgg⟩), (hgv g hgg).1⟩)), fun g hgg => ?_⟩
    obtain ⟨g1, g2, g3⟩ := hgv g hgg
    exact ⟨hrel.o2 g g1 ⟨.inr (.inl ⟨id, b, v, hb, hv, hgg⟩), g1⟩, Nat.lt_of_lt_of_le g2 hrel.size, g3⟩
   ·rw [← hs.ext.block b hb hL]
    refine hrel.block b (Nat.lt_of_lt_of_le hb hs.ext.size) ?_
    by_cases hOb : O b
    ·right
     rcases hs.oc b hOb hb with hX | hL2
     ·exact ⟨.inl (hc.xk b hX), hOb⟩
     ·exact absurd hL2 hL
    ·exact .inl hOb
   ·obtain ⟨D, rfl, hD, hOD, h0⟩ := hs.marks d' hd'
    have hlt : D < w.heap.size := by
     rcases Nat.lt_or_ge D w.heap.size with h1 | h1
     ·exact h1
     ·rw [Array.getElem?_eq_none h1] at hD; cases hD
    have hm' : vn c s θ a.defers D := .inr (.inr ⟨_, hd', rfl⟩)
    exact ⟨D, rfl, by rw [hrel.block D hlt (.inr ⟨hm', hOD⟩)]; exact hD, hrel.o2 D hOD ⟨hm', hOD⟩, h0⟩
   ·rcases hrel.o1 g hg with h | h
    ·exact hs.oc g h hlt
    ·have := hs.ext.size; omega
  subst hd
  exact hK _ _ ⟨O', θ, h1.put _ _ _ (yF (s := s) hn) (yD (s := s) hn) (hr.mono (Nat.le_refl _) (fun _ _ hn => ⟨hn, rfl⟩) (fun _ _ h => by cases h))⟩
end
end Go.Abs

/- Steps that often come together. -/
namespace Go.Abs
variable {G : List (Nat × List PV)}
open Go.RowKit
def yX {α : Type} (fr : List (Nat × Option α)) : List (Nat × Option α) → List (Nat × Option α)
 | [] => []
 | (t, none) :: l => (t, none) :: yX fr l
 | (t, some _) :: l => (t, bZ t fr) :: yX fr l
def Jf (ρ : Nat → Nat) : List (Nat × Option AV) → List (Nat × Option AV)
 | [] => []
 | (t, none) :: l => (t, none) :: Jf ρ l
 | (t, some x) :: l => (t, some (x.map ρ)) :: Jf ρ l
def yT (fr : List (Nat × Option Blk)) (ρ : Nat → Nat) : List (Nat × Option Blk) → List (Option Blk)
 | [] => []
 | (_, none) :: l => none :: yT fr ρ l
 | (t, some _) :: l => bZ (ρ t) fr :: yT fr ρ l
def Jy (ρ : Nat → Nat) : List (Nat × Option Blk) → List (Option Blk)
 | [] => []
 | (_, none) :: l => none :: Jy ρ l
 | (_, some x) :: l => some (x.map ρ) :: Jy ρ l
theorem wV {fr : List (Nat × Option AV)} {ρ : Nat → Nat} : ∀ {l : List (Nat × Option AV)}, yX fr l = Jf ρ l → SubF fr ρ l
 | [], _ => trivial
 | (_, none) :: l, h => by simp only [yX, Jf, List.cons.injEq] at h; exact wV (l := l) h.2
 | (_, some _) :: l, h => by
  simp only [yX, Jf, List.cons.injEq, Prod.mk.injEq] at h
  exact ⟨h.1.2, wV (l := l) h.2⟩
theorem xu {fr : List (Nat × Option Blk)} {ρ : Nat → Nat} : ∀ {l : List (Nat × Option Blk)}, yT fr ρ l = Jy ρ l → SubH fr ρ l
 | [], _ => trivial
 | (_, none) :: l, h => by simp only [yT, Jy, List.cons.injEq] at h; exact xu (l := l) h.2
 | (_, some _) :: l, h => by
  simp only [yT, Jy, List.cons.injEq] at h
  exact ⟨h.1, xu (l := l) h.2⟩
section
variable {ro : Option Nat} {P : Program} {c : Cx G} {Q : Exit → Act → World → Prop} {s : St} {all : List Oper} {e : Exit}
theorem bm {s s' : St} (L : List Nat) (hF : yX s.fr s'.fr = Jf (fun i => L.getD i s.next) s'.fr := by kernel_rfl) (hH : yT s.hp (fun i => L.getD i s.next) s'.hp = Jy (fun i => L.getD i s.next) s'.hp := by kernel_rfl)
  (hn : s'.n = s.n := by exact rfl) (hnd : L.Nodup := by decide) (hnext : s'.next = L.length := by exact rfl) (hfree : s'.free = [] := by exact rfl)
  (hids : (s'.hp.all fun x => Nat.blt x.1 L.length) = true := by exact rfl) (hys : s'.ys = s.ys := by exact rfl) (hkt : s'.kt = s.kt := by exact rfl) : Imp c s s' := BA L hn hnd hnext hfree (wV hF) (xu hH) hids hys hkt
theorem piz (s' : St) (L : List Nat) (h' : iK c Q e s') (hF : yX s.fr s'.fr = Jf (fun i => L.getD i s.next) s'.fr := by kernel_rfl) (hH : yT s.hp (fun i => L.getD i s.next) s'.hp = Jy (fun i => L.getD i s.next) s'.hp := by kernel_rfl)
  (hn : s'.n = s.n := by exact rfl) (hnd : L.Nodup := by decide) (hnext : s'.next = L.length := by exact rfl) (hfree : s'.free = [] := by exact rfl)
  (hids : (s'.hp.all fun x => Nat.blt x.1 L.length) = true := by exact rfl) (hys : s'.ys = s.ys := by exact rfl) (hkt : s'.kt = s.kt := by exact rfl) : iK c Q e s := vD (BA L hn hnd hnext hfree (wV hF) (xu hH) hids hys hkt) h'
class FldI (P : Program) (T f : Nat) (off : outParam Nat) : Prop where
 h : jl P T f off = true
class OneI (P : Program) (T : Nat) : Prop where
 h : kN P T = true
class SlcI (P : Program) (T : Nat) (e sz : outParam Nat) : Prop where
 h : sliceB P T e sz = true
class AggI (P : Program) (T : Nat) (n : outParam Nat) : Prop where
 h : jW P T n = true
 h0 : kN P T = false
section
variable {rest : List Oper} {o : Oper} {s' : St} {d : Option Nat}
theorem SM {T f off : Nat} {x : Operand} {id k : Nat} [F : FldI P T f off] (ho : o.op = .fieldAddr T x f) (hx : ev s x = some (.lp id k)) (hd : o.dst = d) (hn : dOk s d = true) : dR ro P c o s (s.put d (some (.lp id (k + off)))) := fl ho hx F.h hd hn
theorem SS {T f off : Nat} {x : Operand} {row : List PV} [F : FldI P T f off] (ho : o.op = .fieldAddr T x f) (hx : ev s x = some (.pv (.vp row))) (hd : o.dst = d) (hn : dOk s d = true) : dR ro P c o s (s.put d (some (.pv (.vp (row.drop off))))) := ed ho hx F.h hd hn
theorem SG {T : Nat} {x : Operand} {id k : Nat} {t : TypeId} {cells : List AV} {v : AV} [F : OneI P T] (ho : o.op = .load T x) (hx : ev s x = some (.lp id k)) (hb : bZ id s.hp = some (.box t cells)) (hc : cells[k]? = some v) (hd : o.dst = d) (hn : dOk s d = true) : dR ro P c o s (s.put d (some v)) := ez ho hx hb hc F.h hd hn
theorem SH {T : Nat} {x : Operand} {row : List PV} {p : PV} [F : OneI P T] (ho : o.op = .load T x) (hx : ev s x = some (.pv (.vp row))) (hp : row[0]? = some p) (hd : o.dst = d) (hn : dOk s d = true) : dR ro P c o s (s.put d (some (.pv p))) := eY ho hx hp F.h hd hn
theorem QD {T : Nat} {x y : Operand} {id k : Nat} {t : TypeId} {cells : List AV} {v : AV} [F : OneI P T] (ho : o.op = .store T x y) (hx : ev s x = some (.lp id k)) (hy : ev s y = some v) (hc : v.cellish = true) (hb : bZ id s.hp = some (.box t cells)) (hn1 : v.cells.length = 1) (hfit : Nat.ble (k + v.cells.length) cells.length = true) (hd : o.dst = d) (hk : ktB s d = true) :
  dR ro P c o s ((s.setBlk id (some (.box t (splice cells k v.cells)))).put d none) := ec (n := 1) ho hx hy hc hb (yr F.h) (by rw [F.h]; exact hn1) hfit hd hk
theorem QB {T n : Nat} {x y : Operand} {id k : Nat} {t : TypeId} {cells : List AV} {v : AV} [F : AggI P T n] (ho : o.op = .store T x y) (hx : ev s x = some (.lp id k)) (hy : ev s y = some v) (hc : v.cellish = true) (hb : bZ id s.hp = some (.box t cells)) (hn1 : v.cells.length = n) (hfit : Nat.ble (k + v.cells.length) cells.length = true) (hd : o.dst = d) (hk : ktB s d = true) :
  dR ro P c o s ((s.setBlk id (some (.box t (splice cells k v.cells)))).put d none) := ec (n := n) ho hx hy hc hb (nb F.h) (by rw [F.h0]; exact hn1) hfit hd hk
theorem UJ {α : Type} {f : α → List PV} {l : List α} {T e sz sz' : Nat} {x : Operand} [F : SlcI P T e sz'] (ho : o.op = .call { callee := .builtin .len, args := #[x], argTypes := #[T] }) (hx : ev s x = some (.pv (.vs sz (l.map f)))) (hd : o.dst = d) (hn : dOk s d = true) : dR ro P c o s (s.put d (some (.pv (.int .i64 l.length)))) := cR (n := l.length) ho hx (List.length_map ..) F.h hd hn
theorem gp (h : na ro P c all rest Q s') (ho : dR ro P c o s s' := by first
 | exact SM rfl rfl rfl rfl
 | exact SG rfl rfl rfl rfl rfl rfl
 | exact jC rfl rfl rfl rfl rfl rfl
 | exact QD rfl rfl rfl rfl rfl rfl rfl rfl rfl
 | exact QB rfl rfl rfl rfl rfl rfl rfl rfl rfl
 | exact SH rfl rfl rfl rfl rfl
 | exact UJ rfl rfl rfl rfl
 | exact SS rfl rfl rfl rfl
 | exact tq rfl rfl rfl rfl) (hg : o.guard = none := by exact rfl) : na ro P c all (o :: rest) Q s := qo (bQ hg) ho h
theorem gn {j d : Nat} {want t : Bool} (ht : t = want) (h : na ro P c all rest Q s') (ho : dR ro P c o s s' := by first
 | exact SM rfl rfl rfl rfl
 | exact SG rfl rfl rfl rfl rfl rfl
 | exact jC rfl rfl rfl rfl rfl rfl
 | exact QD rfl rfl rfl rfl rfl rfl rfl rfl rfl
 | exact QB rfl rfl rfl rfl rfl rfl rfl rfl rfl
 | exact SH rfl rfl rfl rfl rfl
 | exact UJ rfl rfl rfl rfl
 | exact SS rfl rfl rfl rfl
 | exact tq rfl rfl rfl rfl
 | exact eO rfl rfl rfl rfl
 | exact eH rfl rfl rfl rfl) (hg : o.guard = some (j, want) := by exact rfl) (hj : ((all[j]?).bind (·.dst)) = some d := by exact rfl) (hn : Nat.blt d s.n = true := by exact rfl) (hl : bZ d s.fr = some (.pv (.bool t)) := by exact rfl) : na ro P c all (o :: rest) Q s :=
 qo (cu hg hj hn hl ht) ho h
end
section
variable {rest : List Oper} {o : Oper} {s' : St} {d : Option Nat}
def czc : Value → PV → Option PV
 | .slice none 0 0, .vs n [] => some (.vs n [])
 | v, _ => cv v
def czl : List Value → List PV → Option (List PV)
 | [], [] => some []
 | v :: vs, p :: ps => match czc v p, czl vs ps with
  | some q, some qs => some (q :: qs)
  | _, _ => none
 | _, _ => none
theorem UI {v : Value} {p q : PV} (h : czc v p = some q) (e : q = p) : cz v p := by
 subst e
 unfold czc at h
 split at h
 ·trivial
 ·unfold cz; split
  ·trivial
  ·exact h
theorem Nt : ∀ {vs : List Value} {ps : List PV}, czl vs ps = some ps → czs vs ps
 | [], [], _ => trivial
 | [], _ :: _, h => by simp [czl] at h
 | _ :: _, [], h => by simp [czl] at h
 | v :: vs, p :: ps, h => by
  simp only [czl] at h
  split at h
  ·rename_i q qs h1 h2
   cases h
   exact ⟨UI h1 rfl, Nt h2⟩
  ·cases h
theorem al (kk : Nat) {T : Nat} {z : Value} (ps : List PV) (hz : cJ P T z) (hk : ic s kk = true := by exact rfl) (ho : o.op = .alloc T := by exact rfl) (hp : czl z.cells.toList ps = some ps := by kernel_rfl) (hd : o.dst = d := by exact rfl) (hn : dOk s d = true := by exact rfl) :
  dR ro P c o s ((s.addAt kk none (.box T (ps.map .pv))).put d (some (.lp kk 0))) := rZ kk hk ho hz (Nt hp) hd hn
theorem bd {T : Nat} {parts : List (Nat × Operand)} {place : List (Nat × Nat)} {z : Value} (zs r : List PV) {xs : List (Nat × AV)} (hz : cJ P T z) (hpl : gd P T place = true) (ho : o.op = .build T parts.toArray := by exact rfl) (hzs : czl z.cells.toList zs = some zs := by kernel_rfl)
  (hx : evs s parts = some xs := by exact rfl) (hr : nC place zs xs = some r := by exact rfl) (hd : o.dst = d := by exact rfl) (hn : dOk s d = true := by exact rfl) : dR ro P c o s (s.put d (some (.pv (.agg r)))) := so ho hz (Nt hzs) hpl hx hr hd hn
theorem la {T n : Nat} {x : Operand} {id k : Nat} {t : TypeId} {cells : List AV} (ps : List PV) (ht : jW P T n = true) (ho : o.op = .load T x := by exact rfl) (hx : ev s x = some (.lp id k) := by exact rfl) (hb : bZ id s.hp = some (.box t cells) := by exact rfl)
  (hc : pvs ((cells.drop k).take n) = some ps := by exact rfl) (hl : ps.length = n := by exact rfl) (h1c : (ps.all PV.one) = true := by exact rfl) (hd : o.dst = d := by exact rfl) (hn : dOk s d = true := by exact rfl) : dR ro P c o s (s.put d (some (.pv (.agg ps)))) := dn ho hx hb hc hl h1c ht hd hn
theorem lw {T n : Nat} {x : Operand} {row : List PV} (ps : List PV) (ht : jW P T n = true) (ho : o.op = .load T x := by exact rfl) (hx : ev s x = some (.pv (.vp row)) := by exact rfl) (hp : row.take n = ps := by exact rfl) (hl : ps.length = n := by exact rfl) (hd : o.dst = d := by exact rfl) (hn : dOk s d = true := by exact rfl) :
  dR ro P c o s (s.put d (some (.pv (.agg ps)))) := dw ho hx hp hl ht hd hn
theorem ix {T e sz : Nat} {x y : Operand} {k : IntKind} {n : Int} {rows : List (List PV)} {row : List PV} (hr : idx rows n = some row) (ht : sliceB P T e sz = true) (ho : o.op = .indexAddr T x y := by exact rfl) (hx : ev s x = some (.pv (.vs sz rows)) := by exact rfl) (hy : ev s y = some (.pv (.int k n)) := by exact rfl)
  (hd : o.dst = d := by exact rfl) (hn : dOk s d = true := by exact rfl) : dR ro P c o s (s.put d (some (.pv (.vp row)))) := cG ho hx hy hr ht hd hn
theorem bo (kk : Nat) {T : Nat} {x : Operand} {v : AV} (hk : ic s kk = true := by exact rfl) (ho : o.op = .box T x := by exact rfl) (hx : ev s x = some v := by exact rfl) (hc : v.cellish = true := by exact rfl) (hd : o.dst = d := by exact rfl) (hn : dOk s d = true := by exact rfl) :
  dR ro P c o s ((s.addAt kk none (.box T v.cells)).put d (some (.lp kk 0))) := Tz kk hk ho hx hc hd hn
theorem cl (kk : Nat) {fo : Operand} {xs : List Operand} {ts : Array TypeId} {f : Nat} (args : List PV) (rs : List Res) {ob : Option Blk} (h : Fn G P f (args ++ []) rs) (hB : fu P f = true := by kernel_rfl) (hk : ic s kk = true := by exact rfl) (ho : o.op = .call { callee := .value fo, args := xs.toArray, argTypes := ts } := by exact rfl) (hf : ev s fo = some (.pv (.fn f [])) := by exact rfl) (hx : evl s xs = some (args.map .pv) := by exact rfl)
  (hob : qc rs = some ob := by exact rfl) (hd : o.dst = d := by exact rfl) (hn : dOk s d = true := by exact rfl) : dR ro P c o s ((s.addRes kk ob).put d (some (DC kk rs))) := eD kk hk (caps := []) ho hf hx hB h hob hd hn
theorem cnd {β : Type} {b : Bool} {X Y : Option β} {r : β} {x y : Code} {t : Operand} (hF : (if b = true then X else Y) = some r) (h1 : b = true → X = some r → AW ro P c x Q s) (h2 : b = false → Y = some r → AW ro P c y Q s) (ht : ev s t = some (.pv (.bool b)) := by exact rfl) : AW ro P c (.cond t x y) Q s := by
 rcases L6 hF with ⟨h3, h4⟩ | ⟨h3, h4⟩
 ·exact pW ht h3 (h1 h3 h4)
 ·exact nW ht h3 (h2 h3 h4)
theorem bs {α β : Type} {x : Option α} {k : α → Option β} {r : β} (h : x.bind k = some r) : ∃ y, x = some y ∧ k y = some r := bind_some h
theorem ie {β : Type} {b : Bool} {x y : Option β} {r : β} (h : (if b = true then x else y) = some r) : (b = true ∧ x = some r) ∨ (b = false ∧ y = some r) := L6 h
theorem pcz {s1 : St} (L : List Nat) (hF : yX s.fr s1.fr = Jf (fun i => L.getD i s.next) s1.fr := by kernel_rfl) (hH : yT s.hp (fun i => L.getD i s.next) s1.hp = Jy (fun i => L.getD i s.next) s1.hp := by kernel_rfl)
  (hn : s1.n = s.n := by exact rfl) (hnd : L.Nodup := by decide) (hnext : s1.next = L.length := by exact rfl) (hfree : s1.free = [] := by exact rfl)
  (hids : (s1.hp.all fun x => Nat.blt x.1 L.length) = true := by exact rfl) (hys : s1.ys = s.ys := by exact rfl) (hkt : s1.kt = s.kt := by exact rfl) : iK c (Cut c Q (fun s' => s' = s1)) .normal s := tV s1 rfl (BA L hn hnd hnext hfree (wV hF) (xu hH) hids hys hkt)
theorem rcz {all : List Oper} {s1 : St} (L : List Nat) (hF : yX s.fr s1.fr = Jf (fun i => L.getD i s.next) s1.fr := by kernel_rfl) (hH : yT s.hp (fun i => L.getD i s.next) s1.hp = Jy (fun i => L.getD i s.next) s1.hp := by kernel_rfl)
  (hn : s1.n = s.n := by exact rfl) (hnd : L.Nodup := by decide) (hnext : s1.next = L.length := by exact rfl) (hfree : s1.free = [] := by exact rfl)
  (hids : (s1.hp.all fun x => Nat.blt x.1 L.length) = true := by exact rfl) (hys : s1.ys = s.ys := by exact rfl) (hkt : s1.kt = s.kt := by exact rfl) : na ro P c all [] (Cut c Q (fun s' => s' = s1)) s := cN (tV s1 rfl (BA L hn hnd hnext hfree (wV hF) (xu hH) hids hys hkt))
theorem ctx {k : Code} (s1 : St) (h : AW ro P c k (Cut c Q (fun s' => s' = s1)) s) (h2 : iK c Q .normal s1) : AW ro P c k Q s := Qo _ h (fun _ e => e ▸ h2)
theorem rnr {all : List Oper} {x : Code} {m : Nat} (h : Bc ro P c x Q m s) : na ro P c all [] (Exit.then (Code.roundsIn (FF ro) 0 P x Q m) Q) s := cN (kY h)
abbrev sX (n : Nat) (fr : List (Nat × Option AV)) (hp : List (Nat × Option Blk)) (k : Nat) : St := ⟨n, fr, hp, k, [], [], 0, []⟩
abbrev pf (t : Nat) (p : PV) : Nat × Option AV := (t, some (.pv p))
abbrev bf (t T : Nat) (l : List PV) : Nat × Option Blk := (t, some (.box T (bxv l)))
end
section
variable {id n next ys : Nat} {kt : List Nat} {df : List Deferred} {l rest : List Oper} {o : Oper} {m0 m : Mid} {es : List Eff}
theorem dfl {t d T f off i k : Nat} [F : FldI P T f off] (h : DrW ro P c Q s id l n df next ys kt m0 ({ need := [(t, .lp i k)], dst := some d, val := some (.lp i (k + off)) } :: es) rest (({ need := [(t, .lp i k)], dst := some d, val := some (.lp i (k + off)) } : Eff).apply m))
  (hg : o.guard = none := by exact rfl) (ho : o.op = .fieldAddr T (.tmp t) f := by exact rfl) (hd : o.dst = some d := by exact rfl) (hl : bZ t m.fr = some (.lp i k) := by exact rfl) (hk : dOk (m.st n df next ys kt) (some d) = true := by exact rfl) : DrW ro P c Q s id l n df next ys kt m0 es (o :: rest) m :=
 ba { need := [(t, .lp i k)], dst := some d, val := some (.lp i (k + off)) } (fun _ h => bg (bQ hg) (fl ho h.1.1 F.h hd hk) rfl) ⟨⟨hl, trivial⟩, trivial, trivial⟩ h
theorem dfg {t d T f off i k j dg : Nat} {want b : Bool} [F : FldI P T f off] (hb : b = want) (h : DrW ro P c Q s id l n df next ys kt m0 ({ need := [(dg, .pv (.bool b)), (t, .lp i k)], dst := some d, val := some (.lp i (k + off)) } :: es) rest (({ need := [(dg, .pv (.bool b)), (t, .lp i k)], dst := some d, val := some (.lp i (k + off)) } : Eff).apply m))
  (hg : o.guard = some (j, want) := by exact rfl) (hj : ((l[j]?).bind (·.dst)) = some dg := by exact rfl) (hn : Nat.blt dg n = true := by exact rfl) (hgl : bZ dg m.fr = some (.pv (.bool b)) := by exact rfl) (ho : o.op = .fieldAddr T (.tmp t) f := by exact rfl) (hd : o.dst = some d := by exact rfl) (hl : bZ t m.fr = some (.lp i k) := by exact rfl) (hk : dOk (m.st n df next ys kt) (some d) = true := by exact rfl) : DrW ro P c Q s id l n df next ys kt m0 es (o :: rest) m :=
 ba { need := [(dg, .pv (.bool b)), (t, .lp i k)], dst := some d, val := some (.lp i (k + off)) } (fun _ h => bg (cu hg hj hn h.1.1 hb) (fl ho h.1.2.1 F.h hd hk) rfl) ⟨⟨hgl, hl, trivial⟩, trivial, trivial⟩ h
theorem dld {t d T i k tt : Nat} {cells : List AV} {v : AV} [F : OneI P T] (h : DrW ro P c Q s id l n df next ys kt m0 ({ need := [(t, .lp i k)], hneed := [(i, .box tt cells)], dst := some d, val := some v } :: es) rest (({ need := [(t, .lp i k)], hneed := [(i, .box tt cells)], dst := some d, val := some v } : Eff).apply m))
  (hg : o.guard = none := by exact rfl) (ho : o.op = .load T (.tmp t) := by exact rfl) (hd : o.dst = some d := by exact rfl) (hl : bZ t m.fr = some (.lp i k) := by exact rfl) (hh : bZ i m.hp = some (.box tt cells) := by exact rfl) (hc : cells[k]? = some v := by exact rfl) (hk : dOk (m.st n df next ys kt) (some d) = true := by exact rfl) : DrW ro P c Q s id l n df next ys kt m0 es (o :: rest) m :=
 ba { need := [(t, .lp i k)], hneed := [(i, .box tt cells)], dst := some d, val := some v } (fun _ h => bg (bQ hg) (ez ho h.1.1 h.2.1.1 hc F.h hd hk) rfl) ⟨⟨hl, trivial⟩, ⟨hh, trivial⟩, trivial⟩ h
theorem dlg {t d T i k tt j dg : Nat} {want b : Bool} {cells : List AV} {v : AV} [F : OneI P T] (hb : b = want) (h : DrW ro P c Q s id l n df next ys kt m0 ({ need := [(dg, .pv (.bool b)), (t, .lp i k)], hneed := [(i, .box tt cells)], dst := some d, val := some v } :: es) rest (({ need := [(dg, .pv (.bool b)), (t, .lp i k)], hneed := [(i, .box tt cells)], dst := some d, val := some v } : Eff).apply m))
  (hg : o.guard = some (j, want) := by exact rfl) (hj : ((l[j]?).bind (·.dst)) = some dg := by exact rfl) (hn : Nat.blt dg n = true := by exact rfl) (hgl : bZ dg m.fr = some (.pv (.bool b)) := by exact rfl) (ho : o.op = .load T (.tmp t) := by exact rfl) (hd : o.dst = some d := by exact rfl) (hl : bZ t m.fr = some (.lp i k) := by exact rfl) (hh : bZ i m.hp = some (.box tt cells) := by exact rfl) (hc : cells[k]? = some v := by exact rfl) (hk : dOk (m.st n df next ys kt) (some d) = true := by exact rfl) : DrW ro P c Q s id l n df next ys kt m0 es (o :: rest) m :=
 ba { need := [(dg, .pv (.bool b)), (t, .lp i k)], hneed := [(i, .box tt cells)], dst := some d, val := some v } (fun _ h => bg (cu hg hj hn h.1.1 hb) (ez ho h.1.2.1 h.2.1.1 hc F.h hd hk) rfl) ⟨⟨hgl, hl, trivial⟩, ⟨hh, trivial⟩, trivial⟩ h
theorem dia {t d T T' : Nat} {op : BinOp} {k : IntKind} {a b : Int} {r : PV} {y : Value} (h : DrW ro P c Q s id l n df next ys kt m0 ({ need := [(t, .pv (.int k a))], dst := some d, val := some (.pv r) } :: es) rest (({ need := [(t, .pv (.int k a))], dst := some d, val := some (.pv r) } : Eff).apply m))
  (hg : o.guard = none := by exact rfl) (ho : o.op = .binOp op T (.tmp t) (.const y) T' := by exact rfl) (hd : o.dst = some d := by exact rfl) (hl : bZ t m.fr = some (.pv (.int k a)) := by exact rfl) (hy : cv y = some (.int k b) := by exact rfl) (hr : Om op k a b = some r := by exact rfl) (hk : dOk (m.st n df next ys kt) (some d) = true := by exact rfl) : DrW ro P c Q s id l n df next ys kt m0 es (o :: rest) m :=
 ba { need := [(t, .pv (.int k a))], dst := some d, val := some (.pv r) } (fun _ h => bg (bQ hg) (jC ho h.1.1 (show ev _ (.const y) = _ by simp only [ev, hy, Option.map_some]) hr hd hk) rfl) ⟨⟨hl, trivial⟩, trivial, trivial⟩ h
theorem dig {t d T T' j dg : Nat} {want z : Bool} {op : BinOp} {k : IntKind} {a b : Int} {r : PV} {y : Value} (hb : z = want) (h : DrW ro P c Q s id l n df next ys kt m0 ({ need := [(dg, .pv (.bool z)), (t, .pv (.int k a))], dst := some d, val := some (.pv r) } :: es) rest (({ need := [(dg, .pv (.bool z)), (t, .pv (.int k a))], dst := some d, val := some (.pv r) } : Eff).apply m))
  (hg : o.guard = some (j, want) := by exact rfl) (hj : ((l[j]?).bind (·.dst)) = some dg := by exact rfl) (hn : Nat.blt dg n = true := by exact rfl) (hgl : bZ dg m.fr = some (.pv (.bool z)) := by exact rfl) (ho : o.op = .binOp op T (.tmp t) (.const y) T' := by exact rfl) (hd : o.dst = some d := by exact rfl) (hl : bZ t m.fr = some (.pv (.int k a)) := by exact rfl) (hy : cv y = some (.int k b) := by exact rfl) (hr : Om op k a b = some r := by exact rfl) (hk : dOk (m.st n df next ys kt) (some d) = true := by exact rfl) : DrW ro P c Q s id l n df next ys kt m0 es (o :: rest) m :=
 ba { need := [(dg, .pv (.bool z)), (t, .pv (.int k a))], dst := some d, val := some (.pv r) } (fun _ h => bg (cu hg hj hn h.1.1 hb) (jC ho h.1.2.1 (show ev _ (.const y) = _ by simp only [ev, hy, Option.map_some]) hr hd hk) rfl) ⟨⟨hgl, hl, trivial⟩, trivial, trivial⟩ h
theorem dk (d : Nat) (nd : List (Nat × AV)) (v : AV) (hf : ∀ m : Mid, Has ⟨nd, [], [], some d, some v, []⟩ m → ∃ s1, dR ro P c o (m.st n df next ys kt) s1 ∧ s1 = (Eff.apply ⟨nd, [], [], some d, some v, []⟩ m).st n df next ys kt)
  (h : DrW ro P c Q s id l n df next ys kt m0 (⟨nd, [], [], some d, some v, []⟩ :: es) rest (Eff.apply ⟨nd, [], [], some d, some v, []⟩ m)) (hg : o.guard = none := by exact rfl)
  (ht : Has ⟨nd, [], [], some d, some v, []⟩ m := by first | exact ⟨⟨rfl, trivial⟩, trivial, trivial⟩ | exact ⟨⟨rfl, rfl, trivial⟩, trivial, trivial⟩ | exact ⟨⟨rfl, rfl, rfl, trivial⟩, trivial, trivial⟩ | exact ⟨⟨rfl, rfl, rfl, rfl, trivial⟩, trivial, trivial⟩ | exact ⟨trivial, trivial, trivial⟩) : DrW ro P c Q s id l n df next ys kt m0 es (o :: rest) m :=
 ba _ (fun m h => by obtain ⟨s1, h1, h2⟩ := hf m h; exact bg (bQ hg) h1 h2) ht h
theorem dkg {want b : Bool} (hb : b = want) (d : Nat) {dg : Nat} (nd : List (Nat × AV)) (v : AV) (hf : ∀ m : Mid, Has ⟨(dg, .pv (.bool b)) :: nd, [], [], some d, some v, []⟩ m → ∃ s1, dR ro P c o (m.st n df next ys kt) s1 ∧ s1 = (Eff.apply ⟨(dg, .pv (.bool b)) :: nd, [], [], some d, some v, []⟩ m).st n df next ys kt)
  (h : DrW ro P c Q s id l n df next ys kt m0 (⟨(dg, .pv (.bool b)) :: nd, [], [], some d, some v, []⟩ :: es) rest (Eff.apply ⟨(dg, .pv (.bool b)) :: nd, [], [], some d, some v, []⟩ m)) {j : Nat} (hg : o.guard = some (j, want) := by exact rfl) (hj : ((l[j]?).bind (·.dst)) = some dg := by exact rfl) (hn : Nat.blt dg n = true := by exact rfl)
  (ht : Has ⟨(dg, .pv (.bool b)) :: nd, [], [], some d, some v, []⟩ m := by first | exact ⟨⟨rfl, trivial⟩, trivial, trivial⟩ | exact ⟨⟨rfl, rfl, trivial⟩, trivial, trivial⟩ | exact ⟨⟨rfl, rfl, rfl, trivial⟩, trivial, trivial⟩ | exact ⟨⟨rfl, rfl, rfl, rfl, trivial⟩, trivial, trivial⟩) : DrW ro P c Q s id l n df next ys kt m0 es (o :: rest) m :=
 ba _ (fun m h => by obtain ⟨s1, h1, h2⟩ := hf m h; exact bg (cu hg hj hn h.1.1 hb) h1 h2) ht h
theorem dgo {g g' : Prop} (h' : g') (h : g' → g := by first
 | exact fun h => drm h
 | exact fun h => dfl h
 | exact fun h => dld h
 | exact fun h => dia h
 | exact fun h => dru h) : g := h h'
theorem dgn {b want : Bool} {g g' : Prop} (hb : b = want) (h' : g') (h : b = want → g' → g := by first
 | exact fun hb h => dfg hb h
 | exact fun hb h => dlg hb h
 | exact fun hb h => dig hb h) : g := h hb h'
end
theorem go {g g' : Prop} (h' : g') (h : g' → g := by first
 | ((with_reducible refine (?_ : _ → na _ _ _ _ _ _ _)); first
  | exact fun h => rmv h
  | exact fun h => gp h
  | exact fun h => ras h
  | exact fun h => cN (Iw h)
  | exact fun h => rgu h)
 | ((with_reducible refine (?_ : _ → AW _ _ _ _ _ _)); first
  | with_reducible exact fun h => aF (IR h)
  | with_reducible exact fun h => aF h
  | with_reducible exact fun h => IR h
  | with_reducible exact fun h => Sd h
  | with_reducible exact fun h => TJ h
  | with_reducible exact fun h => bl h)
 | ((with_reducible refine (?_ : _ → iK _ _ _ _)); first
  | with_reducible exact fun h => Iw h
  | with_reducible exact fun h => yI h
  | with_reducible exact fun h => Gl h
  | with_reducible exact fun h => EF h)) : g := h h'
end
theorem go2 {g g' : Prop} (h' : g') (h : g' → g := by intro h; (iterate 2 refine go ?_); exact h) : g := h h'
theorem go3 {g g' : Prop} (h' : g') (h : g' → g := by intro h; (iterate 3 refine go ?_); exact h) : g := h h'
theorem go4 {g g' : Prop} (h' : g') (h : g' → g := by intro h; (iterate 4 refine go ?_); exact h) : g := h h'
theorem go5 {g g' : Prop} (h' : g') (h : g' → g := by intro h; (iterate 5 refine go ?_); exact h) : g := h h'
theorem go6 {g g' : Prop} (h' : g') (h : g' → g := by intro h; (iterate 6 refine go ?_); exact h) : g := h h'
theorem go7 {g g' : Prop} (h' : g') (h : g' → g := by intro h; (iterate 7 refine go ?_); exact h) : g := h h'
theorem go8 {g g' : Prop} (h' : g') (h : g' → g := by intro h; (iterate 8 refine go ?_); exact h) : g := h h'
theorem go9 {g g' : Prop} (h' : g') (h : g' → g := by intro h; (iterate 9 refine go ?_); exact h) : g := h h'
end Go.Abs

/- Maps whose keys are pairs of numbers; entries that await their value. -/
namespace Go.Abs
variable {G : List (Nat × List PV)}
open Go.RowKit
def kb2 (a b : Int) : List UInt8 := keyBytes [.int .i64 a, .int .i64 b]
def pN (n : Int) : Bool := decide (IntKind.i64.min ≤ n) && decide (n ≤ IntKind.i64.max)
theorem RH {n : Int} (h : pN n = true) : (Lit.int .i64 n).wf = true := h
def C8 (P : Program) (T k e E : Nat) : Bool :=
 (match P.underlying T with | some (.map k' e') => k' == k && e' == e | _ => false) && (match P.underlying e with | some (.int .i64) => true | _ => false) &&
 (match P.underlying k with | some (.array n E') => n == 2 && E' == E | _ => false) && (match P.underlying E with | some (.int .i64) => true | _ => false) &&
 P.cellsOf k == 2 && P.cellsOf E == 1 && P.keyType k && P.keyTypeAt 3 k && Nat.blt k P.types.size && laidOutB P
structure Map2 (P : Program) (T k e E : Nat) : Prop where
 m1 : P.underlying T = some (.map k e)
 m3 : P.underlying e = some (.int .i64)
 ka : P.underlying k = some (.array 2 E)
 kE : P.underlying E = some (.int .i64)
 ck : P.cellsOf k = 2
 cE : P.cellsOf E = 1
 kt : P.keyType k = true
 kt3 : P.keyTypeAt 3 k = true
 lt : k < P.types.size
 laid : laidOutB P = true
theorem uy {P : Program} {T k e E : Nat} (h : C8 P T k e E = true) : Map2 P T k e E := by
 unfold C8 at h
 simp only [Bool.and_eq_true, beq_iff_eq] at h
 obtain ⟨⟨⟨⟨⟨⟨⟨⟨⟨h1, h2⟩, h3⟩, h4⟩, h5⟩, h6⟩, h7⟩, h8⟩, h9⟩, h0⟩ := h
 refine ⟨?_, ?_, ?_, ?_, h5, h6, h7, h8, by simpa [Nat.blt_eq] using h9, h0⟩
 ·split at h1
  ·rename_i e1; simp at h1; obtain ⟨rfl, rfl⟩ := h1; exact e1
  ·cases h1
 ·split at h2
  ·rename_i e1; exact e1
  ·cases h2
 ·split at h3
  ·rename_i e1; simp at h3; obtain ⟨rfl, rfl⟩ := h3; exact e1
  ·cases h3
 ·split at h4
  ·rename_i e1; exact e1
  ·cases h4
theorem Map2.law {P : Program} {T k e E : Nat} (h : Map2 P T k e E) : WideMaps.KeyLaw P k := deep_law_laid h.laid (m := 3) (by decide) h.lt h.kt3 (by rw [h.ka])
theorem Map2.key {P : Program} {T k e E : Nat} (h : Map2 P T k e E) {a b : Int} (ha : pN a = true) (hb : pN b = true) : keyOf P k (.agg #[.int .i64 a, .int .i64 b]) = some (.string (kb2 a b)) := by
 have hsz : ∃ d, P.types.size = d + 1 := ⟨P.types.size - 1, by have := h.lt; omega⟩
 obtain ⟨d, hd⟩ := hsz
 unfold keyOf
 rw [h.ka]
 have hf : (Value.agg #[.int .i64 a, .int .i64 b]).formed P k = true := by
  unfold Value.formed; rw [h.ka]; simp [h.ck]
 have h1 : ∀ n : Int, pN n = true → P.keyLits (d + 1) E [.int .i64 n] = some [.int .i64 n] := by
  intro n hn
  unfold Program.keyLits
  rw [h.kE]
  simp [RH hn]
 have h2 : P.keyLits (d + 1 + 1) k [.int .i64 a, .int .i64 b] = some [.int .i64 a, .int .i64 b] := by
  have e1 := h1 a ha
  have e2 := h1 b hb
  generalize hd1 : d + 1 = d1 at e1 e2
  unfold Program.keyLits
  rw [h.ka]
  simp [h.ck, h.cE, List.range_succ, e1, e2]
 simp only [h.kt, hf, Bool.and_self, if_true]
 rw [hd]
 show Option.map _ (P.keyLits (d + 1 + 1) k [.int .i64 a, .int .i64 b]) = _
 rw [h2]; rfl
theorem Pj {P : Program} {w : World} {t k e : TypeId} {b : Nat} {es : Array MapEntry} {clock : Nat} (K : WideMaps.KeyLaw P k) (ht : P.underlying t = some (.map k e)) (me : P.underlying e = some (.int .i64)) (hz : ∀ u : World, (zeroValue e).run P u = .ok (.int .i64 0) u) (hb : w.heap[b]? = some (.map es clock)) (F : WideElems.Fit P k (plainElem (H := Unit) P e) es clock)
  {key : Value} {kl : Lit} (hkey : keyOf P k key = some kl) :
  ∃ (v0 : Value) (st : Nat) (es1 : Array MapEntry) (clock1 : Nat) (x0 : Int), (Instr.mapEntry t (.map (some b)) key).run P w = .ok (.tuple #[v0, goInt st]) (ChangeMaps.setBlock w b (.map es1 clock1)) ∧
   (Instr.mapUpdate t (.map (some b)) key (.int .i64 x0)).run P w = .ok () (ChangeMaps.setBlock w b (.map es1 clock1)) ∧ (Instr.lookup t (.map (some b)) key false).run P w = .ok (.int .i64 x0) w ∧ pN x0 = true := by
 rcases K.find w hkey es.toList F.keys with ⟨h1, h2⟩ | ⟨j, e0, h1, h2, h3⟩
 ·refine ⟨.int .i64 0, clock, es.push ⟨key, .int .i64 0, clock⟩, clock + 1, 0, ?_, ?_, ?_, by decide⟩
  ·simp [Instr.mapEntry, run_underlying ht, MapKept.run_getObj_map hb, K.check w false hkey, h1, hz, MapKept.run_setObj_map _ hb, Result.andThen, ChangeMaps.setBlock]
  ·simp [Instr.mapUpdate, run_underlying ht, MapKept.run_getObj_map hb, K.check w false hkey, h1, MapKept.run_setObj_map _ hb, Result.andThen, ChangeMaps.setBlock]
  ·simp [Instr.lookup, run_underlying ht, MapKept.run_getObj_map hb, K.check w es.isEmpty hkey, h1, hz, Result.andThen]
 ·have hj : es[j]? = some e0 := by simpa using h2
  obtain ⟨y, hy⟩ := F.reads e0 (List.mem_of_getElem? h2)
  obtain ⟨z, hz1, _⟩ := WideElems.rd_val hy
  obtain ⟨d0, p0⟩ := z
  obtain ⟨x0, hx0, _, hx1⟩ := plainElem_int_inv me hz1
  have hset : ∀ (l : List MapEntry) (i : Nat) (a : MapEntry), l[i]? = some a → l.set i a = l := fun l i a h => by
   apply List.ext_getElem?
   intro n
   rw [List.getElem?_set]
   split
   ·rename_i e; subst e
    split
    ·exact h.symm
    ·rename_i hn; rw [List.getElem?_eq_none (by omega)] at h; cases h
   ·rfl
  have hsame : es.modify j (fun e => { e with key := key }) = es := by
   apply Array.ext'
   rw [Array.toList_modify]
   apply List.ext_getElem?
   intro n
   rw [List.getElem?_modify]
   split
   ·rename_i e; subst e; rw [h2]; simp [← h3]
   ·simp
  have hsame2 : es.modify j (fun e => { e with key := key, val := .int .i64 x0 }) = es := by
   apply Array.ext'
   rw [Array.toList_modify]
   apply List.ext_getElem?
   intro n
   rw [List.getElem?_modify]
   split
   ·rename_i e; subst e; rw [h2]; simp [← h3, ← hx0]
   ·simp
  refine ⟨e0.val, e0.born, es, clock, x0, ?_, ?_, ?_, ?_⟩
  ·simp [Instr.mapEntry, run_underlying ht, MapKept.run_getObj_map hb, K.check w false hkey, h1, hj, h3, K.stays w hkey, hsame, MapKept.run_setObj_map _ hb, Result.andThen, ChangeMaps.setBlock]
  ·simp [Instr.mapUpdate, run_underlying ht, MapKept.run_getObj_map hb, K.check w false hkey, h1, hj, h3, K.stays w hkey, hsame2, MapKept.run_setObj_map _ hb, Result.andThen, ChangeMaps.setBlock]
  ·simp [Instr.lookup, run_underlying ht, MapKept.run_getObj_map hb, K.check w es.isEmpty hkey, h1, hx0, Result.andThen]
  ·exact hx1
theorem SimAt.name {c : Cx G} {s : St} {O : Nat → Prop} {θ : Nat → Option Value} {a : Act} {w : World} (h : SimAt c s O θ a w) (k : Nat) (hk : ic s k = true) {v : Value} (hv : du v = none) (hone : v.oneCell' = true) :
  SimAt c { s with next := bif Nat.beq k s.next then k + 1 else s.next, free := s.free.filter fun x => !([k].elem x) } O (fun i => if i = k then some v else θ i) a w ∧ (∀ i u, θ i = some u → (if i = k then some v else θ i) = some u) := by
 have hkne : ∀ i u, θ i = some u → i ≠ k := by
  intro i u hi e
  subst e
  have h1 := h.dom i u hi
  simp only [ic, Bool.or_eq_true, List.elem_eq_mem, decide_eq_true_eq] at hk
  rcases hk with hk | hk
  ·have := Nat.eq_of_beq_eq_true hk; omega
  ·exact h1.2 hk
 have hθ : ∀ i u, θ i = some u → (if i = k then some v else θ i) = some u := by
  intro i u hi
  rw [if_neg (hkne i u hi)]; exact hi
 have hback : ∀ i u, (if i = k then some v else θ i) = some u → (i = k ∧ u = v) ∨ θ i = some u := by
  intro i u hi
  split at hi
  ·rename_i e; cases hi; exact .inl ⟨e, rfl⟩
  ·exact .inr hi
 have hm : ∀ b, b < w.heap.size → ¬ O b → ¬ O b ∧ w.heap[b]? = w.heap[b]? := fun b _ hn => ⟨hn, rfl⟩
 refine ⟨⟨h.size, h.df, fun t x hx => (h.fr t x hx).mono (Nat.le_refl _) hm hθ, fun id b hb => ?_, fun i j bi bj vi vj g hi hj hvi hvj hgi hgj => ?_, fun id u hu => ?_, fun x hx => ?_, fun id u hu => ?_, h.olt, h.ext, h.xo, h.xlt, h.llt, h.marks, h.oc, h.kp, ?_⟩, hθ⟩
 ·obtain ⟨u, hu, hbo, hg⟩ := h.hp id b hb
  exact ⟨u, hθ _ _ hu, hbo.mono (Nat.le_refl _) hm hθ (fun _ _ => rfl), hg⟩
 ·rcases hback i vi hvi with ⟨_, rfl⟩ | h1
  ·rw [hv] at hgi; cases hgi
  ·rcases hback j vj hvj with ⟨_, rfl⟩ | h2
   ·rw [hv] at hgj; cases hgj
   ·exact h.inj i j bi bj vi vj g hi hj h1 h2 hgi hgj
 ·show id < (bif Nat.beq k s.next then k + 1 else s.next) ∧ id ∉ s.free.filter fun x => !([k].elem x)
  rcases hback id u hu with ⟨rfl, _⟩ | h1
  ·refine ⟨?_, by simp⟩
   cases hb : Nat.beq id s.next with
   | true => simp
   | false =>
    simp only [cond_false]
    simp only [ic, hb, Bool.false_or, List.elem_eq_mem, decide_eq_true_eq] at hk
    exact h.flt id hk
  ·obtain ⟨d1, d2⟩ := h.dom id u h1
   refine ⟨?_, fun hm => d2 (List.mem_filter.1 hm).1⟩
   cases hb : Nat.beq k s.next with
   | true => have := Nat.eq_of_beq_eq_true hb; simp; omega
   | false => simpa using d1
 ·show x < (bif Nat.beq k s.next then k + 1 else s.next)
  have h1 := h.flt x (List.mem_filter.1 hx).1
  cases hb : Nat.beq k s.next with
  | true => have := Nat.eq_of_beq_eq_true hb; simp; omega
  | false => simpa using h1
 ·rcases hback id u hu with ⟨_, rfl⟩ | h1
  ·exact hone
  ·exact h.one id u h1
 ·refine c.Jst h.jn ⟨rfl, rfl, rfl, Nat.le_refl _, fun _ _ _ => rfl, fun g h => .inl h, fun g h _ => h, h.olt, fun g hI => .inl ?_⟩
  rcases hI with hI | ⟨id, b, u, h1, h2, h3⟩ | hI
  ·exact .inl hI
  ·rcases hback id u h2 with ⟨_, rfl⟩ | h4
   ·rw [hv] at h3; cases h3
   ·exact .inr (.inl ⟨id, b, u, h1, h4, h3⟩)
  ·exact .inr (.inr hI)
theorem SimAt.forget {c : Cx G} {s : St} {O : Nat → Prop} {θ : Nat → Option Value} {a : Act} {w : World} (h : SimAt c s O θ a w) (k : Nat) : SimAt c { s with hp := (k, none) :: s.hp } O θ a w := by
 have hl : ∀ id b, bZ id ((k, none) :: s.hp) = some b → bZ id s.hp = some b := by
  intro id b hb
  rw [dz] at hb
  split at hb
  ·cases hb
  ·exact hb
 refine ⟨h.size, h.df, h.fr, fun id b hb => h.hp id b (hl id b hb), fun i j bi bj vi vj g hi hj => h.inj i j bi bj vi vj g (hl i bi hi) (hl j bj hj), h.dom, h.flt, h.one, h.olt, h.ext, h.xo, h.xlt, h.llt, h.marks, h.oc, h.kp, ?_⟩
 refine c.Jst h.jn ⟨rfl, rfl, rfl, Nat.le_refl _, fun _ _ _ => rfl, fun g h => .inl h, fun g h _ => h, h.olt, fun g hI => .inl ?_⟩
 rcases hI with hI | ⟨id, b, u, h1, h2, h3⟩ | hI
 ·exact .inl hI
 ·exact .inr (.inl ⟨id, b, u, hl id b h1, h2, h3⟩)
 ·exact .inr (.inr hI)
def St.entry (s : St) (kk id : Nat) (b : Blk) : St := { s with hp := (id, some b) :: (kk, none) :: s.hp, next := bif Nat.beq kk s.next then kk + 1 else s.next, free := s.free.filter fun x => !([kk].elem x) }
def xW (m : List UInt8 → Option Int) (a b : Int) : Option Int := if pN a && pN b then some ((m (kb2 a b)).getD 0) else none
def P9 (n : Nat) (a b : Int) : Option Unit := if (pN a && pN b) && Nat.blt n maxLen then some () else none
theorem O8 {n : Nat} {a b : Int} {u : Unit} (h : P9 n a b = some u) : pN a = true ∧ pN b = true ∧ n < maxLen := by
 unfold P9 at h
 split at h
 ·rename_i h1
  simp only [Bool.and_eq_true, Nat.blt_eq] at h1
  exact ⟨h1.1.1, h1.1.2, h1.2⟩
 ·cases h
def LL (v : Int) : Option Unit := if pN v then some () else none
theorem MN {v : Int} {u : Unit} (h : LL v = some u) : pN v = true := by
 unfold LL at h
 split at h
 ·assumption
 ·cases h
def qK (m : List UInt8 → Option Int) (key : List UInt8) (v : Int) : List UInt8 → Option Int := fun x => if x = key then some v else m x
section
variable {ro : Option Nat} {P : Program} {c : Cx G} {s : St} {o : Oper} {d : Option Nat}
theorem L5 (kk : Nat) (hk : ic s kk = true) {T k e E : Nat} (ho : o.op = .makeMap T none) (hm : C8 P T k e E = true) (hd : o.dst = d) (hn : dOk s d = true) :
  dR ro P c o s ((s.addAt kk none (.dict P T 0 (fun _ => none))).put d (some (.ls kk))) :=
 mi (s1 := s.addAt kk none (.dict P T 0 (fun _ => none))) hd hn (by rw [ho]; intro k h; cases h) fun a w O θ hs => by
  have M := uy hm
  obtain ⟨O', θ', h3, h4, h5, h6⟩ := hs.addAt (w' := w.alloc (.map #[] 0)) (row := none) (v := .map (some w.heap.size)) (b := .dict P T 0 (fun _ => none)) kk hk none (by simp) (fun _ => rfl) (nV w _)
   (fun g hg => by simp [du] at hg; subst hg; simp) rfl (fun O' θ' _ _ => ⟨w.heap.size, rfl, k, e, .map [], M.m1, M.law, M.m3, World.ownsMap_made w P k _, Maps.isMap_empty, fun key => ⟨rfl, rfl⟩⟩)
  refine ⟨_, _, O', θ', ?_, h6, .ls _ _ h5⟩
  simp [execOp, ho, run_makeMap]
theorem JH {w : World} {O : Nat → Prop} {k k' : IntKind} {a b : Int} {v : Value} (h : Rd w O (.agg [.int k a, .int k' b]) v) : v = .agg #[.int k a, .int k' b] := by
 cases h with
 | agg cs us hn hone h =>
  have hs : us.size = 2 := hn
  have h0 := h 0 _ us[0] rfl (by simp)
  have h1 := h 1 _ us[1] rfl (by simp)
  congr 1
  apply Array.ext
  ·simp [hs]
  ·intro i hi hi2
   have : i = 0 ∨ i = 1 := by omega
   rcases this with rfl | rfl
   ·generalize us[0] = x at *; cases h0; rfl
   ·generalize us[1] = x at *; cases h1; rfl
theorem Dw {T k e E : Nat} {x y : Operand} {id n : Nat} {m : List UInt8 → Option Int} {a b r : Int} (ho : o.op = .lookup T x y false) (hx : ev s x = some (.ls id)) (hb : bZ id s.hp = some (.dict P T n m)) (hy : ev s y = some (.pv (.agg [.int .i64 a, .int .i64 b])))
  (hm : C8 P T k e E = true) (hz : cJ P e (.int .i64 0)) (hr : xW m a b = some r) (hd : o.dst = d) (hn : dOk s d = true) : dR ro P c o s (s.put d (some (.pv (.int .i64 r)))) :=
 cw hd hn (by rw [ho]; intro k h; cases h) fun ac w O θ hs => by
  have M := uy hm
  unfold xW at hr
  split at hr
  ·rename_i h2
   cases hr
   simp only [Bool.and_eq_true] at h2
   have h := gF hs hx
   have e2 := JH (mc hs hy)
   generalize hv : ac.eval x = v at h
   cases h with
   | ls _ _ h =>
    obtain ⟨v', hv', ⟨bb, rfl, q⟩, _⟩ := hs.hp id _ hb
    rw [h] at hv'; cases hv'
    have h1 := (yk q M.m1 M.m3 hz (M.key h2.1 h2.2)).1
    exact ⟨_, by simp [execOp, ho, hv, e2, h1], .pv _ _ (.int _ _)⟩
  ·cases hr
theorem Ki (kk : Nat) (hk : ic s kk = true) {T k e E : Nat} {x y : Operand} {id n : Nat} {m : List UInt8 → Option Int} {a b : Int} (ho : o.op = .mapEntry T x y) (hx : ev s x = some (.ls id)) (hb : bZ id s.hp = some (.dict P T n m)) (hy : ev s y = some (.pv (.agg [.int .i64 a, .int .i64 b])))
  (hm : C8 P T k e E = true) (hz : cJ P e (.int .i64 0)) (hment : pN a = true ∧ pN b = true ∧ n < maxLen) (hd : o.dst = d) (hn : dOk s d = true) :
  dR ro P c o s ((s.entry kk id (.dictE P T n m (kb2 a b) kk)).put d (some (.tup [.any, .ls kk]))) :=
 mi (s1 := s.entry kk id (.dictE P T n m (kb2 a b) kk)) hd hn (by rw [ho]; intro k h; cases h) fun ac w O θ hs => by
  obtain ⟨ha, hbb, hnm⟩ := hment
  have M := uy hm
  have h := gF hs hx
  have e2 := JH (mc hs hy)
  generalize hv : ac.eval x = v at h
  cases h with
  | ls _ _ h =>
   obtain ⟨v', hv', ⟨bb, rfl, q⟩, _⟩ := hs.hp id _ hb
   have hθ := hv'
   rw [h] at hv'; cases hv'
   have hkey := M.key ha hbb
   have q' := q
   obtain ⟨k', e', D, q1, q2, q3, ⟨es, clock, hb1, F, hes, hD⟩, q5, q6⟩ := q
   rw [M.m1] at q1; cases q1
   obtain ⟨v0, st, es1, clock1, r1, _, r3⟩ := WideElems.entry_then_store (R := plainElem P e) M.law M.m1 (fun u => (gQ hz u).1) hb1 F hkey
   obtain ⟨v0', st', es1', clock1', x0, n1, n2, n3, n4⟩ := Pj M.law M.m1 M.m3 (fun u => (gQ hz u).1) hb1 F hkey
   rw [r1] at n1
   injection n1 with _ n1
   rw [← n1] at n2
   have n5 := (yk q' M.m1 M.m3 hz hkey).1
   rw [n3] at n5
   have n6 : x0 = (m (kb2 a b)).getD 0 := by injection n5 with n5 _; injection n5
   have n7 : IntKind.i64.min ≤ x0 ∧ x0 ≤ IntKind.i64.max := by simpa only [pN, Bool.and_eq_true, decide_eq_true_eq] using n4
   obtain ⟨wm, pm1, _, pm3⟩ := IU q' M.m1 M.m3 hkey hnm n7.1 n7.2
   rw [n2] at pm1
   injection pm1 with _ pm1
   subst pm1
   have hmid : ∃ (n' : Nat) (m' : List UInt8 → Option Int), MapAt (ChangeMaps.setBlock w bb (.map es1 clock1)) P T n' m' bb ∧ ∀ y, (m' y).getD 0 = (m y).getD 0 := by
    refine ⟨_, _, pm3, fun y => ?_⟩
    by_cases hy : y = kb2 a b
    ·rw [if_pos hy, hy, n6]; rfl
    ·rw [if_neg hy]
   obtain ⟨h1, h2⟩ := (hs.forget kk).name kk hk (v := goInt st) rfl rfl
   have hne : ¬ kk = id := by
    intro e
    subst e
    have h3 := hs.dom kk _ hθ
    simp only [ic, Bool.or_eq_true, List.elem_eq_mem, decide_eq_true_eq] at hk
    rcases hk with hk | hk
    ·have := Nat.eq_of_beq_eq_true hk; omega
    ·exact h3.2 hk
   have hb2 : bZ id ((kk, none) :: s.hp) = some (.dict P T n m) := by rw [dz, if_neg hne]; exact hb
   have hlt : bb < w.heap.size := (Array.getElem?_eq_some_iff.1 hb1).1
   have hg : w.grownBy (ChangeMaps.setBlock w bb (.map es1 clock1)) (some bb) := ⟨rfl, rfl, rfl, by simp [ChangeMaps.setBlock], fun i _ hi => ChangeMaps.heap_setBlock_other hb1 _ (fun e => hi (by rw [e]))⟩
   refine ⟨_, _, O, _, ?_, h1.upd (b' := .dictE P T n m (kb2 a b) kk) hb2 (h2 _ _ hθ) hg ⟨bb, st, rfl, by simp, hmid, es1, clock1, ChangeMaps.heap_setBlock_same hb1 _, fun w2 xx hw2 x1 x2 => ?_⟩, .tup _ #[v0, goInt st] rfl fun i y u hy hu => ?_⟩
   ·simp [execOp, ho, hv, e2, r1]
   ·obtain ⟨es', clock', s1, s2⟩ := r3 w2 (.int .i64 xx) hw2
    obtain ⟨w', p1, p2, p3⟩ := IU q' M.m1 M.m3 hkey hnm x1 x2
    rw [s2] at p1
    cases p1
    refine ⟨_, s1, ⟨rfl, rfl, rfl, by simp [ChangeMaps.setBlock], fun i _ hi => ChangeMaps.heap_setBlock_other hw2 _ (fun e => hi (by rw [e]))⟩, p3.of_block ?_⟩
    rw [ChangeMaps.heap_setBlock_same hw2, ChangeMaps.heap_setBlock_same hb1]
   ·match i with
    | 0 => simp at hy hu; subst hy; exact .any _
    | 1 => simp at hy hu; subst hy; subst hu; exact .ls _ _ (by simp)
    | i + 2 => simp at hy
theorem Ko {T k e E : Nat} {x y : Operand} {id n kk : Nat} {m : List UInt8 → Option Int} {key : List UInt8} {a b r : Int} (ho : o.op = .lookup T x y false) (hx : ev s x = some (.ls id)) (hb : bZ id s.hp = some (.dictE P T n m key kk)) (hy : ev s y = some (.pv (.agg [.int .i64 a, .int .i64 b])))
  (hm : C8 P T k e E = true) (hz : cJ P e (.int .i64 0)) (hr : xW m a b = some r) (hd : o.dst = d) (hn : dOk s d = true) : dR ro P c o s (s.put d (some (.pv (.int .i64 r)))) :=
 cw hd hn (by rw [ho]; intro k h; cases h) fun ac w O θ hs => by
  have M := uy hm
  unfold xW at hr
  split at hr
  ·rename_i h2
   cases hr
   simp only [Bool.and_eq_true] at h2
   have h := gF hs hx
   have e2 := JH (mc hs hy)
   generalize hv : ac.eval x = v at h
   cases h with
   | ls _ _ h =>
    obtain ⟨v', hv', ⟨bb, st, rfl, _, ⟨n', m', q, hq⟩, _⟩, _⟩ := hs.hp id _ hb
    rw [h] at hv'; cases hv'
    have h1 := (yk q M.m1 M.m3 hz (M.key h2.1 h2.2)).1
    rw [hq] at h1
    exact ⟨_, by simp [execOp, ho, hv, e2, h1], .pv _ _ (.int _ _)⟩
  ·cases hr
theorem Gd {T : Nat} {x y z : Operand} {id id2 n : Nat} {m : List UInt8 → Option Int} {key : List UInt8} {v : Int} (ho : o.op = .entryStore T x y z) (hx : ev s x = some (.ls id)) (hb : bZ id s.hp = some (.dictE P T n m key id2)) (hy : ev s y = some (.ls id2))
  (hzz : ev s z = some (.pv (.int .i64 v))) (h0 : pN v = true) (hd : o.dst = none) :
  dR ro P c o s ((s.setBlk id (some (.dict P T (n + 1) (qK m key v)))).put none none) :=
 xc (s1 := s.setBlk id (some (.dict P T (n + 1) (qK m key v)))) hd rfl (by rw [ho]; intro k h; cases h) fun a w O θ hs => by
  simp only [pN, Bool.and_eq_true, decide_eq_true_eq] at h0
  have h := gF hs hx
  have hst := gF hs hy
  have e3 := jR hs hzz
  generalize hv : a.eval x = u at h
  generalize hv2 : a.eval y = u2 at hst
  cases h with
  | ls _ _ h =>
   cases hst with
   | ls _ _ hst =>
    obtain ⟨v', hv', ⟨b, st, rfl, t1, _, es, clock, t2, t3⟩, _⟩ := hs.hp id _ hb
    have hθ := hv'
    rw [h] at hv'; cases hv'
    rw [hst] at t1; cases t1
    obtain ⟨w3, s1, s2, s3⟩ := t3 w v t2 h0.1 h0.2
    refine ⟨w3, O, θ, ?_, hs.upd hb hθ s2 ⟨b, rfl, s3⟩⟩
    simp [execOp, ho, hv, hv2, e3, s1]
end
end Go.Abs

/- The slice of a row's first elements, handed to a function that reads it. -/
namespace Go.Abs
variable {G : List (Nat × List PV)}
open Go.RowKit
section
variable {ro : Option Nat} {P : Program} {c : Cx G} {s s' : St} {o : Oper} {d : Option Nat}
end
end Go.Abs

/- slices.SortFunc at pairs of numbers, out of the kit's contract. -/
namespace Go.Abs
variable {G : List (Nat × List PV)}
open Go.RowKit Go.Sort Go.Lib
open Go.Proofs (ltOf sortWorldK)
instance : Inhabited (A2 Int) := ⟨⟨0, 0⟩⟩
def cfP (x y : A2 Int) : Int := if Lib.compareInt x.a0 y.a0 ≠ 0 then Lib.compareInt x.a0 y.a0 else Lib.compareInt x.a1 y.a1
def pC (x : A2 Int) : List Value := [.int .i64 x.a0, .int .i64 x.a1]
theorem ltP (x y : A2 Int) : ltOf cfP x y = decide (x.a0 < y.a0 ∨ (x.a0 = y.a0 ∧ x.a1 < y.a1)) := by
 unfold ltOf cfP Lib.compareInt
 by_cases h1 : x.a0 < y.a0
 ·simp [h1]
 ·by_cases h2 : y.a0 < x.a0
  ·have : ¬ x.a0 = y.a0 := by omega
   simp [h1, h2, this]
  ·have h3 : x.a0 = y.a0 := by omega
   by_cases h4 : x.a1 < y.a1
   ·simp [h3, h4]
   ·by_cases h5 : y.a1 < x.a1 <;> simp [h3, h4, h5]
theorem UW : SWO (ltOf cfP) where
 irrefl x := by rw [ltP]; simp
 trans x y z h1 h2 := by rw [ltP] at *; simp at *; omega
 ntrans x y z h1 h2 := by rw [ltP] at *; simp at *; omega
theorem UX (x y : A2 Int) (h1 : ltOf cfP x y = false) (h2 : ltOf cfP y x = false) : x = y := by
 rw [ltP] at h1 h2
 simp at h1 h2
 cases x; cases y
 simp at h1 h2 ⊢
 omega
def sV (l : List (A2 Int)) : Option (List (A2 Int)) := if l.length < 4611686018427387904 then some (l.mergeSort fun x y => !(ltOf cfP) y x) else none
theorem Fh {w : World} {O : Nat → Prop} : ∀ (x : List (A2 Int)) (us : List Value), RowsRd w O 2 (x.map (eA2 eI)) us → us = x.flatMap pC
 | [], us, h => by
  have := h.len
  simp at this
  simp [this]
 | p :: x, us, h => by
  have hl := h.len
  simp only [List.map_cons, List.length_cons, List.length_map] at hl
  match us, hl with
  | [], hl => simp at hl
  | [_], hl => simp at hl; omega
  | a :: b :: t, hl =>
   have h0 := h.rd 0 0 _ (.int .i64 p.a0) a rfl rfl rfl
   have h1 := h.rd 0 1 _ (.int .i64 p.a1) b rfl rfl rfl
   cases h0; cases h1
   have ih := Fh x t ⟨by simp at hl ⊢; omega, fun row hr => h.hz row (by simp at hr ⊢; exact .inr hr), fun row hr => h.one row (by simp at hr ⊢; exact .inr hr), fun i j row c u q1 q2 q3 => by
    refine h.rd (i + 1) j row c u (by simpa using q1) q2 ?_
    rw [show (i + 1) * 2 + j = i * 2 + j + 1 + 1 by omega]
    simpa using q3⟩
   rw [ih]; rfl
theorem Cm (w : World) (O : Nat → Prop) : ∀ x : List (A2 Int), RowsRd w O 2 (x.map (eA2 eI)) (x.flatMap pC)
 | [] => ⟨rfl, by simp, by simp, by simp⟩
 | p :: x => by
  have ih := Cm w O x
  refine ⟨?_, fun row hr => ?_, fun row hr => ?_, fun i j row c u q1 q2 q3 => ?_⟩
  ·have := ih.len
   simp [pC] at this ⊢; omega
  ·simp only [List.map_cons, List.mem_cons] at hr
   rcases hr with rfl | hr
   ·rfl
   ·exact ih.hz row hr
  ·simp only [List.map_cons, List.mem_cons] at hr
   rcases hr with rfl | hr
   ·intro c hc; simp [eI] at hc; rcases hc with rfl | rfl <;> rfl
   ·exact ih.one row hr
  ·cases i with
   | zero =>
    simp at q1; subst q1
    match j, q2, q3 with
    | 0, q2, q3 => simp [eI] at q2; subst q2; simp [pC] at q3; subst q3; exact .int _ _
    | 1, q2, q3 => simp [eI] at q2; subst q2; simp [pC] at q3; subst q3; exact .int _ _
    | j + 2, q2, q3 => simp [eI] at q2
   | succ i =>
    refine ih.rd i j row c u (by simpa using q1) q2 ?_
    rw [show (i + 1) * 2 + j = i * 2 + j + 1 + 1 by omega] at q3
    simpa [pC] using q3
theorem DQ : ∀ (x : List (A2 Int)) (t : Nat), t < x.length * 2 → (x.flatMap pC)[t]? = some ((pC x[t / 2]!)[t % 2]!)
 | [], t, h => by simp at h
 | p :: x, 0, _ => rfl
 | p :: x, 1, _ => rfl
 | p :: x, t + 2, h => by
  have := DQ x t (by simp at h; omega)
  rw [show (t + 2) / 2 = t / 2 + 1 by omega, show (t + 2) % 2 = t % 2 by omega]
  simpa [pC] using this
theorem KQ (x : List (A2 Int)) : (x.flatMap pC).length = x.length * 2 := by
 induction x with
 | nil => rfl
 | cons p x ih => simp [pC] at ih ⊢; omega
theorem II (x : List (A2 Int)) (t : Nat) (h : t < x.length * 2) : (flatK pC 2 x.toArray)[t]! = (pC x[t / 2]!)[t % 2]! := by
 rw [get_flatK _ _ _ _ (by simpa using h)]
 simp
theorem KO {w : World} {g E : Nat} {cur : Array Value} {x : List (A2 Int)} (hg : w.heap[g]? = some (.cells cur E (0, 0))) (ht : cur.toList.take (x.length * 2) = x.flatMap pC) : HoldsK pC 2 w g 0 x.toArray := by
 intro j hj
 rw [size_flatK] at hj
 simp only [List.size_toArray] at hj
 refine ⟨?_, by simp [World.frozen?, hg]⟩
 have h1 := DQ x j hj
 rw [← ht, List.getElem?_take, if_pos hj] at h1
 rw [Nat.zero_add, cell_of_row w g _ cur E (0, 0) hg]
 rw [show id (flatK pC 2 x.toArray)[j]! = (pC x[j / 2]!)[j % 2]! from II x j hj]
 simpa using h1
theorem KF {w : World} {g E n : Nat} {cur : Array Value} {r : List (A2 Int)} {os : Array Obj} (hg : w.heap[g]? = some (.cells cur E (0, 0))) (hs : r.length * 2 ≤ cur.size) :
  (∃ cur', (sortWorldK pC 2 w g 0 n r.toArray os).heap[g]? = some (.cells cur' E (0, 0)) ∧ cur'.size = cur.size ∧ cur'.toList.take (r.length * 2) = r.flatMap pC) ∧ w.grownBy (sortWorldK pC 2 w g 0 n r.toArray os) (some g) := by
 have hlt : g < w.heap.size := (Array.getElem?_eq_some_iff.1 hg).1
 have hh : (sortWorldK pC 2 w g 0 n r.toArray os).heap = (w.heap.modify g (onCells (putCells id 0 (flatK pC 2 r.toArray)))) ++ os := rfl
 refine ⟨⟨putCells id 0 (flatK pC 2 r.toArray) cur, ?_, by simp [putCells], ?_⟩, rfl, rfl, rfl, ?_, fun i hi hne => ?_⟩
 ·rw [hh, Array.getElem?_append_left (by simpa using hlt), Array.getElem?_modify, if_pos rfl, hg]; rfl
 ·apply List.ext_getElem?
  intro t
  rw [List.getElem?_take]
  by_cases h : t < r.length * 2
  ·rw [if_pos h, DQ r t h, Array.getElem?_toList]
   unfold putCells
   rw [Array.getElem?_mapIdx, Array.getElem?_eq_getElem (by omega)]
   simp only [Option.map_some, Option.some.injEq]
   rw [if_pos ⟨Nat.zero_le _, by rw [size_flatK]; simpa using h⟩]
   exact II r t h
  ·rw [if_neg h, List.getElem?_eq_none (by rw [KQ]; omega)]
 ·rw [hh]; simp
 ·rw [hh, Array.getElem?_append_left (by simpa using hi), Array.getElem?_modify, if_neg (fun e => hne (by rw [e]))]
theorem PR {P : Program} {f g E : Nat} (raw : ∀ (blk cap : Nat) (d : Array (A2 Int)) (w : World), HoldsK pC 2 w blk 0 d → blk < w.heap.size → d.size < 4611686018427387904 →
   Calls P f #[.slice (some ⟨blk, 0, none⟩) d.size cap, .func (.func g) #[] #[]] w fun e w' => e = .returned (.tuple #[]) ∧ ∃ n os, w' = sortWorldK pC 2 w blk 0 n (d.toList.mergeSort fun x y => !(ltOf cfP) y x).toArray os)
  (none_ : ∀ (p : Option Addr) (cap : Nat) (fv : Value) (w : World), Calls P f #[.slice p 0 cap, fv] w fun e w' => e = .returned (.tuple #[]) ∧ w' = w) {x r : List (A2 Int)} (h : sV x = some r) :
  FnW G P f [.ls 0, .pv (.fn g [])] [(0, some (.row E 2 (List.map (eA2 eI) x)))] 1 [(0, 0)] [] [(0, some (.row E 2 (List.map (eA2 eI) r)))] 1 := by
 intro w O θ vs hO _ hpre hsz hrd
 obtain ⟨v, hv, ⟨us, hown, hrows⟩, hOg⟩ := hpre.own 0 _ rfl
 have hus := Fh x us hrows
 subst hus
 obtain ⟨a0, a1, rfl⟩ : ∃ a0 a1, vs = #[a0, a1] := by
  obtain ⟨l⟩ := vs
  match l, hsz with
  | [a, b], _ => exact ⟨a, b, rfl⟩
 have e0 := hrd 0 _ a0 rfl rfl
 have e1 := hrd 1 _ a1 rfl rfl
 have ha0 : a0 = v := by
  cases e0 with
  | ls _ _ h => rw [hv] at h; exact (Option.some.inj h).symm
 subst ha0
 have ha1 : a1 = .func (.func g) #[] #[] := by
  cases e1 with
  | pv _ _ h =>
   cases h with
   | fn _ _ us hn _ => simp at hn; subst hn; rfl
 subst ha1
 unfold sV at h
 split at h
 ·rename_i hlt
  have hr := Option.some.inj h
  have hrl : r.length = x.length := by rw [← hr]; exact List.length_mergeSort x
  rw [List.length_map] at hown
  -- what is to be shown of a world behind
  have fin : ∀ w' : World, w.grownBy w' (du a0) → ownsW w' E 2 a0 r.length (r.flatMap pC) → ∃ v O' θ', Ending.returned (.tuple #[]) = .returned v ∧ Ext (ow [(0, some (.row E 2 (List.map (eA2 eI) x)))] θ) w w' ∧ (∀ g, O g → ¬ ow [(0, some (.row E 2 (List.map (eA2 eI) x)))] θ g → O' g) ∧ (∀ g, O' g → g < w'.heap.size) ∧
   (∀ g, O' g → g < w.heap.size → O g) ∧
   PreW w' O' θ' [(0, some (.row E 2 (List.map (eA2 eI) r)))] 1 ∧ (∀ g, ow [(0, some (.row E 2 (List.map (eA2 eI) r)))] θ' g → ow [(0, some (.row E 2 (List.map (eA2 eI) x)))] θ g ∨ w.heap.size ≤ g) ∧ (∀ ij ∈ [(0, 0)], θ' ij.2 = θ ij.1) ∧ RdA w' O' θ' (J9 []) v := by
   intro w' hg hown'
   have hl0 : ∀ (id : Nat) (b : Blk), bZ id [(0, some (Blk.row E 2 (List.map (eA2 eI) r)))] = some b → id = 0 ∧ b = .row E 2 (List.map (eA2 eI) r) := by
    intro id b hb
    rw [dz] at hb
    split at hb
    ·rename_i e; cases hb; exact ⟨e.symm, rfl⟩
    ·simp [bZ] at hb
   refine ⟨_, O, θ, rfl, ⟨hg.os, hg.tape, hg.output, hg.size, fun b hb hn => hg.block b hb (fun e => hn ⟨0, _, _, rfl, hv, e.symm⟩)⟩, fun g h _ => h, fun g h => Nat.lt_of_lt_of_le (hO g h) hg.size, fun g h _ => h,
    ⟨fun id b hb => ?_, fun i j bi bj vi vj g hi hj _ _ _ _ => by rw [(hl0 i bi hi).1, (hl0 j bj hj).1], hpre.dom, hpre.one⟩, fun g hh => ?_, by simp, .tup [] #[] rfl (by simp)⟩
   ·obtain ⟨rfl, rfl⟩ := hl0 id b hb
    exact ⟨a0, hv, ⟨_, by rw [List.length_map]; exact hown', Cm w' O r⟩, fun g hgg => ⟨(hOg g hgg).1, Nat.lt_of_lt_of_le (hOg g hgg).2 hg.size⟩⟩
   ·obtain ⟨id, b, u, h1, h2, h3⟩ := hh
    obtain ⟨rfl, rfl⟩ := hl0 id b h1
    exact .inl ⟨0, _, u, rfl, h2, h3⟩
  rcases hown.2 with ⟨rfl, h0⟩ | ⟨b, cap, cur, rfl, _, hg, hnc, hcm, hcs, htk⟩
  ·have hx : x = [] := List.eq_nil_of_length_eq_zero h0
   subst hx
   have hr0 : r = [] := by rw [← hr]; simp
   subst hr0
   refine (none_ none 0 _ w).mono ?_
   rintro e w' ⟨rfl, rfl⟩
   exact fin w' (World.grownBy.refl _ _) (ub _ _ _)
  ·have := raw b cap x.toArray w (KO hg htk) (Array.getElem?_eq_some_iff.1 hg).1 (by simpa using hlt)
   simp only [List.size_toArray, hr] at this
   refine this.mono ?_
   rintro e w' ⟨rfl, n, os, rfl⟩
   have hle : r.length * 2 ≤ cur.size := by rw [hrl]; have := Nat.mul_le_mul_right 2 hnc; omega
   obtain ⟨⟨cur', k1, k2, k3⟩, k4⟩ := KF (n := n) (os := os) hg hle
   exact fin _ k4 ⟨KQ r, .inr ⟨b, cap, cur', by rw [hrl], trivial, k1, by omega, hcm, by rw [k2]; exact hcs, k3⟩⟩
 ·cases h
end Go.Abs

