/- The abstract layer that the proof stands on: no condition. -/
import Derived.Test.YtnnphkfiookbnaaDoorCalcInputA3
import Derived.Lib.ConvBytes
import Derived.Laws.BytesString
import Derived.Lib.Join
import Derived.Lib.AppendZeros
import Derived.Test.YtnnphkfiookbnaaDoorCalcInputA2
import Derived.ProofKit
import Derived.OpenShut
import Derived.JoinedCond
import Derived.LaidMore
import Derived.Stop.Joined
import Derived.Deep.DeepHandedRow
/- Bits and quotients of integers; texts and bytes. -/
namespace Go.Abs
variable {G : List (Nat × List PV)}
open Go.RowKit
def bitsI (k : IntKind) (f : BitVec k.bits → BitVec k.bits → BitVec k.bits) (x y : Int) : Int := k.wrap (f (BitVec.ofInt k.bits x) (BitVec.ofInt k.bits y)).toNat
def andI (k : IntKind) (x y : Int) : Int := bitsI k (fun a b => a &&& b) x y
def orI (k : IntKind) (x y : Int) : Int := bitsI k (fun a b => a ||| b) x y
def xorI (k : IntKind) (x y : Int) : Int := bitsI k (fun a b => a ^^^ b) x y
def notI (k : IntKind) (x y : Int) : Int := bitsI k (fun a b => a &&& ~~~b) x y
def intOp2 (op : BinOp) (k : IntKind) (m n : Int) : Option PV :=
  match op with
  | .and => some (.int k (andI k m n))
  | .or => some (.int k (orI k m n))
  | .xor => some (.int k (xorI k m n))
  | .andNot => some (.int k (notI k m n))
  | .quo => if n = 0 then none else some (.int k (k.wrap (m.tdiv n)))
  | .rem => if n = 0 then none else some (.int k (m.tmod n))
  | _ => none
def bytesL (l : List UInt8) : List Int := l.map fun b => (b.toNat : Int)
section
variable {ro : Option Nat} {P : Program} {c : Cx G} {s s' : St} {o : Oper} {d : Option Nat}
theorem op_int2 {op : BinOp} {T T' : TypeId} {x y : Operand} {k : IntKind} {m n : Int} {r : PV} (ho : o.op = .binOp op T x y T') (hx : ev s x = some (.pv (.int k m))) (hy : ev s y = some (.pv (.int k n)))
    (hr : intOp2 op k m n = some r) (hd : o.dst = d) (hn : dOk s d = true) : OpOk ro P c o s (s.put d (some (.pv r))) :=
  opOk_value hd hn (by rw [ho]; intro k h; cases h) fun a w O θ hs => by
    have e1 := ev_int hs hx
    have e2 := ev_int hs hy
    cases op <;> simp only [intOp2, Option.some.injEq, reduceCtorEq] at hr
    case quo =>
      split at hr
      · cases hr
      · rename_i h0
        cases hr
        exact ⟨_, by simp [execOp, ho, eqGuard, binOp, e1, e2, Op.intDiv, h0], .pv _ _ (.int _ _)⟩
    case rem =>
      split at hr
      · cases hr
      · rename_i h0
        cases hr
        exact ⟨_, by simp [execOp, ho, eqGuard, binOp, e1, e2, Op.intDiv, h0], .pv _ _ (.int _ _)⟩
    all_goals subst hr
    all_goals exact ⟨_, by simp [execOp, ho, eqGuard, binOp, e1, e2, Op.intBits, andI, orI, xorI, notI, bitsI], .pv _ _ (.int _ _)⟩
/-- `[]byte(s)`, that nobody writes to. -/
theorem op_strBytes {T T' e : TypeId} {x : Operand} {l : List UInt8} {td : TypeDesc} {u : Unit} {E : Int → List PV} (ho : o.op = .convert T T' x) (hx : ev s x = some (.pv (.str l))) (hs0 : P.underlying T = some td) (hd0 : P.underlying T' = some (.slice e)) (he : P.underlying e = some (.int .u8))
    (hl : room (l.length : Int) 1 = some u) (hE : E = fun b => [.int .u8 b]) (hd : o.dst = d) (hn : dOk s d = true) : OpOk ro P c o s (s.put d (some (.pv (.vs 1 ((bytesL l).map E))))) :=
  opOk_mem (s1 := s) hd hn (by rw [ho]; intro k h; cases h) fun a w O θ hs => by
    have hl := room_spec hl
    subst hE
    rw [show (bytesL l).map (fun b => [PV.int .u8 b]) = l.map fun b => [.int .u8 (b.toNat : Int)] by simp [bytesL]]
    have hsz : (⟨l.toArray⟩ : ByteArray).size = l.length := by simp [ByteArray.size]
    have hg : w.grownBy (Lib.bytesWorld w e ⟨l.toArray⟩) none := ⟨rfl, rfl, rfl, by rw [Lib.bytesWorld_size]; omega, fun k hk _ => Lib.bytesWorld_at_old w e _ k hk⟩
    have hge := grownCap_ge w l.length 0 e
    have hcm := grownCap_le_maxLen w l.length 0 e (by unfold maxLen; omega)
    have hnO : ¬ O w.heap.size := fun h => by have := hs.olt _ h; omega
    have hrun := Lib.run_convert_string_bytes w T T' e ⟨l.toArray⟩ hs0 hd0 he
    rw [hsz] at hrun
    refine ⟨.slice (some ⟨w.heap.size, 0, none⟩) l.length (grownCap w l.length 0 e), Lib.bytesWorld w e ⟨l.toArray⟩, O, θ, by simp [execOp, ho, ev_str hs hx, hrun], hs.grownNone hg, .pv _ _ ?_⟩
    have := rd_vs_of_rows (w := Lib.bytesWorld w e ⟨l.toArray⟩) (O := O) (sz := 1) (rows := l.map fun b => [.int .u8 (b.toNat : Int)]) (us := l.map fun b => .int .u8 (b.toNat : Int)) (g := w.heap.size) (cap := grownCap w l.length 0 e) ⟨by simp, by simp, by simp [PV.one], fun i j row c u h1 h2 h3 => ?_⟩ (Lib.bytesWorld_at_new w e ⟨l.toArray⟩) (by simp [Lib.bytesCells]) hnO (by simpa using hge) hcm
    · simpa using this
    · rw [List.getElem?_map, Option.map_eq_some_iff] at h1
      obtain ⟨b, hb, rfl⟩ := h1
      cases j with
      | zero =>
        simp at h2 h3
        obtain ⟨b', hb', rfl⟩ := h3
        rw [hb] at hb'; cases hb'
        subst h2
        exact .int _ _
      | succ j => simp at h2
end
end Go.Abs

/- Package variables: an array of known elements. -/
namespace Go.Abs
variable {G : List (Nat × List PV)}
open Go.RowKit
section
variable {ro : Option Nat} {P : Program} {c : Cx G} {s s' : St} {o : Oper} {d : Option Nat}
theorem ev_glob {O : Nat → Prop} {θ : Nat → Option Value} {a : Act} {w : World} (hs : SimAt c s O θ a w) {g : Nat} {row : List PV} (hg : (g, row) ∈ G) : Rd w O (.vp row) (a.eval (.global g)) := by
  have h := c.JG hs.jn _ hg
  exact h
/-- A package variable's elements, as a slice. -/
theorem op_glob_slice {T n e sz g : Nat} {row : List PV} {α : Type} {f : α → List PV} {l : List α} (ho : o.op = .slice T (.global g) none none none) (hG : (g, row) ∈ G)
    (ht : arrayB P T n e sz = true) (hrow : row = (l.map f).flatten) (hf : ∀ z, (f z).length = sz) (hl : l.length = n) (hnm : Nat.ble n maxLen = true) (hd : o.dst = d) (hn : dOk s d = true) : OpOk ro P c o s (s.put d (some (.pv (.vs sz (l.map f))))) :=
  opOk_value hd hn (by rw [ho]; intro k h; cases h) fun a w O θ hs => by
    obtain ⟨i, t1, t2, t3⟩ := arrayB_spec ht
    have hv := ev_glob hs hG
    have he : a.eval (.global g) = .pointer (some ⟨g, 0, none⟩) := rfl
    rw [he] at hv
    have hfl : ((l.map f).flatten).length = n * sz := by
      rw [flatten_len (sz := sz) (fun row hr => by obtain ⟨z, _, rfl⟩ := List.mem_map.1 hr; exact hf z), List.length_map, hl]
    have hv2 := rd_arr (n := n) (sz := sz) hv (by rw [hrow, List.take_of_length_le (by omega)]) hf hl (Nat.le_of_ble_eq_true hnm)
    have e0 : (l.map f).length = n := by rw [List.length_map, hl]
    rw [e0] at hv2
    refine ⟨.slice (some ⟨g, 0, none⟩) n n, ?_, .pv _ _ hv2⟩
    by_cases h0 : n = 0
    · subst h0
      simp [execOp, ho, he, Instr.sliceAt, run_underlying t1, Instr.sureAddr, Instr.sliceBounds, sizeOf, typeInfo, t2, t3, Addr.add_lit]
    · simp [execOp, ho, he, Instr.sliceAt, run_underlying t1, Instr.sureAddr, Instr.sliceBounds, sizeOf, typeInfo, t2, t3, Addr.add_lit]
end
/-- What a package variable's cells read as. -/
theorem globOk_nil {w : World} {O : Nat → Prop} : GlobOk [] w O := fun x hx => by cases hx
theorem globOk_cons {w : World} {O : Nat → Prop} {x : Nat × List PV} {l : List (Nat × List PV)} (h : Rd w O (.vp x.2) (.pointer (some ⟨x.1, 0, none⟩))) (hl : GlobOk l w O) : GlobOk (x :: l) w O := fun y hy => by
  rcases List.mem_cons.1 hy with rfl | hy
  · exact h
  · exact hl y hy
end Go.Abs

/- An array of a box, as a slice that is copied into. -/
namespace Go.Abs
variable {G : List (Nat × List PV)}
open Go.RowKit
section
variable {ro : Option Nat} {P : Program} {c : Cx G} {s s' : St} {o : Oper} {d : Option Nat}
end
end Go.Abs

/- Functions of Go's library, by the contracts of the kit's shelf. -/
namespace Go.Abs
variable {G : List (Nat × List PV)}
open Go.RowKit
end Go.Abs

/- A row of the call's own, cut short; zeros behind nil; what a nil slice has room for. -/
namespace Go.Abs
variable {G : List (Nat × List PV)}
open Go.RowKit
section
variable {ro : Option Nat} {P : Program} {c : Cx G} {s s' : St} {o : Oper} {d : Option Nat}
theorem op_slice_own (kk : Nat) (hk : freshB s kk = true) {T e sz : Nat} {x y : Operand} {k : IntKind} {n : Int} {id : Nat} {rows rows' : List (List PV)} (ho : o.op = .slice T x none (some y) none) (hx : ev s x = some (.ls id)) (hb : look id s.hp = some (.row e sz rows)) (hy : ev s y = some (.pv (.int k n)))
    (ht : sliceB P T e sz = true) (hr : cutL rows 0 n = some rows') (hd : o.dst = d) (hn : dOk s d = true) : OpOk ro P c o s ((s.addAt kk (some id) (.row e sz rows')).put d (some (.ls kk))) :=
  opOk_mem (s1 := s.addAt kk (some id) (.row e sz rows')) hd hn (by rw [ho]; intro k h; cases h) fun a w O θ hs => by
    obtain ⟨q0, q1, q2, rfl⟩ := cutL_spec hr
    obtain ⟨i, h1, h2, h3⟩ := sliceB_spec ht
    have h := ev_ok hs hx
    have hi := ev_int hs hy
    generalize ha : a.eval x = u at h
    cases h with
    | ls _ _ h =>
      obtain ⟨v', hv', ⟨us, hown, hrd⟩, hO2⟩ := hs.hp id _ hb
      rw [h] at hv'; cases hv'
      have hl : ((rows.take n.toNat).drop (0 : Int).toNat).length = n.toNat := by simp; omega
      have hrw : (rows.take n.toNat).drop (0 : Int).toNat = rows.take n.toNat := by simp
      have hrd2 : RowsRd w O sz (rows.take n.toNat) (us.take (n.toNat * sz)) := by
        refine ⟨?_, fun row hr => hrd.hz row (List.mem_of_mem_take hr), fun row hr => hrd.one row (List.mem_of_mem_take hr), fun i j row x u h1 h2 h3 => ?_⟩
        · have : n.toNat * sz ≤ rows.length * sz := Nat.mul_le_mul_right _ (by omega)
          rw [List.length_take, List.length_take, hrd.len, Nat.min_eq_left this, Nat.min_eq_left (by omega)]
        · rw [List.getElem?_take] at h1 h3
          split at h1
          · split at h3
            · exact hrd.rd i j row x u h1 h2 h3
            · cases h3
          · cases h1
      have key : ∃ v, (execOp a.eval o).run P w = .ok (.value v) w ∧ blkOf v = blkOf u ∧ v.oneCell' = true ∧ ownsW w e sz v n.toNat (us.take (n.toNat * sz)) := by
        have htl : (us.take (n.toNat * sz)).length = n.toNat * sz := by
          have : n.toNat * sz ≤ rows.length * sz := Nat.mul_le_mul_right _ (by omega)
          rw [List.length_take, hown.1, Nat.min_eq_left this]
        rcases hown.2 with ⟨rfl, h6⟩ | ⟨g, cap, cur, rfl, _, hg, hnc, hcm, hcs, htk⟩
        · have hn0 : n = 0 := by omega
          subst hn0
          have b1 := run_sliceBound (P := P) (w := w) (k := k) (n := 0) (y := 0) (code := .sliceAcap) (by omega) (by omega)
          refine ⟨.slice none 0 0, ?_, rfl, rfl, ?_⟩
          · simp [execOp, ho, ha, hi, Instr.sliceAt, run_underlying h1, Instr.slice, Instr.sliceBounds, sizeOf, typeInfo, h2, h3, b1]
          · have : us.take ((0 : Int).toNat * sz) = [] := by simp
            rw [this]
            exact ownsW_nil w e sz
        · have b1 := run_sliceBound (P := P) (w := w) (k := k) (n := n) (y := cap) (code := .sliceAcap) (by omega) (by omega)
          refine ⟨.slice (some ⟨g, 0, none⟩) n.toNat cap, ?_, rfl, rfl, htl, .inr ⟨g, cap, cur, rfl, trivial, hg, by omega, hcm, hcs, ?_⟩⟩
          · by_cases hc0 : cap = 0
            · subst hc0
              simp [execOp, ho, ha, hi, Instr.sliceAt, run_underlying h1, Instr.slice, Instr.sliceBounds, sizeOf, typeInfo, h2, h3, b1, Addr.add_lit]
            · simp [execOp, ho, ha, hi, Instr.sliceAt, run_underlying h1, Instr.slice, Instr.sliceBounds, sizeOf, typeInfo, h2, h3, b1, Addr.add_lit]
          · rw [← htk, List.take_take, Nat.min_eq_left (Nat.mul_le_mul_right _ (by omega))]
      obtain ⟨v, hrun, hbv, hone, hown2⟩ := key
      have hg := World.grownBy.refl w (blkOf u)
      obtain ⟨O', θ', h4, h5, h6, h7⟩ := hs.addAt (w' := w) (row := blkOf u) (v := v) (b := .row e sz ((rows.take n.toNat).drop (0 : Int).toNat)) kk hk (some id)
        (fun A' e => by cases e; exact ⟨_, _, hb, h, rfl⟩) (fun e => by cases e) hg
        (fun g hg' => by rw [hbv] at hg'; exact ⟨(hO2 g hg').2.1, .inr hg'⟩) hone (fun O' θ' hO' hθ' => by
          rw [hrw]
          refine ⟨us.take (n.toNat * sz), by rw [← hrw, hl]; exact hown2, hrd2.mono (Nat.le_refl _) fun b hb1 hb2 => ⟨fun hh => ?_, rfl⟩⟩
          rcases (hO' b).1 hh with hh | hh
          · exact hb2 hh
          · rw [hbv] at hh; exact hb2 (hO2 b hh).1)
      exact ⟨v, w, O', θ', hrun, h7, .ls _ _ h6⟩
end
end Go.Abs
namespace Go.Abs
end Go.Abs
namespace Go.Abs
variable {G : List (Nat × List PV)}
open Go.RowKit
section
variable {ro : Option Nat} {P : Program} {c : Cx G} {s s' : St} {o : Oper} {d : Option Nat}
/-- The same, where nobody writes to it. -/
theorem op_litZ {T e sz : Nat} {us0 : Array Value} {z : Value} {zs : List PV} {rows : List (List PV)} (ho : o.op = .buildSlice T 1 #[(0, .const (.agg us0))]) (ht : sliceB P T e sz = true) (hz : zeroIs P e z) (hzs : czs z.cells.toList zs) (hz0 : czs us0.toList zs)
    (hzl : zs.length = sz) (hsz : Nat.blt 0 sz = true) (hlen : Nat.ble (1 * sz) 16777216 = true) (hf : fillPV [(0, sz)] (zs ++ []) [(0, .pv (.agg zs))] = some (zs ++ [])) (he : rows = [zs])
    (hd : o.dst = d) (hn : dOk s d = true) : OpOk ro P c o s (s.put d (some (.pv (.vs sz rows)))) := by
  subst he
  refine op_litL (parts := [(0, .const (.agg us0))]) (xs := [(0, .pv (.agg zs))]) (z := z) (zs := zs) ho rfl ht hz hzs hzl hsz hlen (fun a w O θ hs => ⟨rfl, .pv _ _ ?_, trivial⟩) ?_ (by simp [hzl]) hd hn
  · have h1 := rd_of_reads1 (w := w) (O := O) (czs_reads1 hz0)
    rw [show us0.toList.toArray = us0 by simp] at h1
    exact h1
  · simpa using hf
end
end Go.Abs
namespace Go.Abs
theorem cutR0 {α : Type} {f : α → List PV} {g : List α → List (List PV)} (hm : ∀ l, g l = l.map f) {xs r : List α} {lo hi : Int} (e : cutL xs lo hi = some r) : cutL (g xs) lo hi = some (g r) := by rw [hm, hm]; exact cutL_map f e
end Go.Abs

/- A box that holds a function which holds that box: a function that calls itself by its own variable. -/
namespace Go.Abs
variable {G : List (Nat × List PV)}
open Go.RowKit
end Go.Abs

/- From the arguments' readings to abstract values; a law's row, out of its contract. -/
namespace Go.Abs
variable {G : List (Nat × List PV)}
open Go.ChangeShapes Go.WideShapes Go.ChangeAt Go.RowKit

section
variable {H : Type} (enc : TypeId × Value → H) (P : Program) (w : World)

/-- What is read at type `T` is one `e y`, with a `y` that is `good`. -/
def DecAt (fuel : Nat) (T : TypeId) {α : Type} (e : α → List PV) (good : α → Prop) : Prop :=
  ∀ (cs : List Value) (x : DataW H × List MemPlace), DataW.trod enc P w 0 (fun _ => true) true fuel T cs = some x → ∃ y, good y ∧ Reads1 w (fun _ => False) cs (e y)

variable {enc P w}
theorem reads1_one {v : Value} {p : PV} (h : Rd w (fun _ => False) p v) (hp : p.one = true) : Reads1 w (fun _ => False) [v] [p] := by
  refine ⟨rfl, by simpa using hp, fun j q u hq hu => ?_⟩
  cases j with
  | zero => simp at hq hu; subst hq; subst hu; exact h
  | succ j => simp at hq

theorem dec_bool {fuel T : Nat} (h : P.underlying T = some .bool) : DecAt enc P w fuel T eB (fun _ => True) := fun cs x hx => by
  obtain ⟨b, rfl, _⟩ := DataW.trod_bool h hx
  exact ⟨b, trivial, reads1_one (.bool b) rfl⟩
def i64ok (n : Int) : Prop := -9223372036854775808 ≤ n ∧ n ≤ 9223372036854775807
theorem dec_int {fuel T : Nat} (h : P.underlying T = some (.int .i64)) : DecAt enc P w fuel T eI i64ok := fun cs x hx => by
  obtain ⟨n, rfl, _, hw⟩ := DataW.trod_int h hx
  exact ⟨n, bounds_i64 hw, reads1_one (.int _ n) rfl⟩
def strok (s : List UInt8) : Prop := s.length ≤ maxLen
def listok {α : Type} (good : α → Prop) (l : List α) : Prop := l.length ≤ maxLen ∧ ∀ y ∈ l, good y

/-! Structs, part by part. -/
def partsB (P : Program) (T : TypeId) (l : List (TypeId × Nat × Nat)) (n : Nat) : Bool :=
  match P.underlying T with
  | some (.struct fs) => (fs.toList.map (fun f => (f.type, f.offset, P.cellsOf f.type)) == l) && P.cellsOf T == n
  | _ => false
theorem reads_nil {cs : List Value} {off : Nat} (h : cs.length = off) : Reads1 w (fun _ => False) (cs.drop off) [] := by
  rw [List.drop_eq_nil_of_le (by omega)]
  exact ⟨rfl, by simp, fun j p u hp => by simp at hp⟩
theorem reads_cons {cs : List Value} {off sz : Nat} {p q : List PV} (h1 : Reads1 w (fun _ => False) ((cs.drop off).take sz) p) (hp : p.length = sz) (h2 : Reads1 w (fun _ => False) (cs.drop (off + sz)) q) : Reads1 w (fun _ => False) (cs.drop off) (p ++ q) := by
  have e : cs.drop off = (cs.drop off).take sz ++ cs.drop (off + sz) := by
    rw [← List.drop_drop, List.take_append_drop]
  rw [e]
  have hl : ((cs.drop off).take sz).length = sz := by rw [h1.1, hp]
  refine ⟨by rw [List.length_append, List.length_append, h1.1, h2.1], fun x hx => ?_, fun j x u hx hu => ?_⟩
  · rcases List.mem_append.1 hx with h | h
    · exact h1.2.1 x h
    · exact h2.2.1 x h
  · rw [List.getElem?_append] at hx hu
    rw [hl] at hu; rw [hp] at hx
    split at hx
    · rename_i hj; rw [if_pos hj] at hu; exact h1.2.2 j x u hx hu
    · rename_i hj; rw [if_neg hj] at hu; exact h2.2.2 _ x u hx hu

def arrB (P : Program) (T : TypeId) (n E sz : Nat) : Bool :=
  match P.underlying T with
  | some (.array m e) => (m == n && e == E) && (P.cellsOf E == sz && P.cellsOf T == n * sz)
  | _ => false
end
end Go.Abs
namespace Go.Abs
variable {G : List (Nat × List PV)}
theorem reads0 {w : World} {cs : List Value} {p : List PV} (h : Reads1 w (fun _ => False) (cs.drop 0) p) : Reads1 w (fun _ => False) cs p := by simpa using h
end Go.Abs
namespace Go.Abs
variable {G : List (Nat × List PV)}
open Go.ChangeShapes Go.WideShapes Go.ChangeAt Go.RowKit
section
variable {H : Type} {enc : TypeId × Value → H} {P : Program} {w : World}
end
end Go.Abs

/- A law's row, out of its contract. -/
namespace Go.Abs
variable {G : List (Nat × List PV)}
open Go.ChangeShapes Go.WideShapes Go.ChangeAt Go.RowKit

section
variable {H : Type} {enc : TypeId × Value → H} {P : Program}

def readB (P : Program) (ts : List TypeId) : Bool := ts.all fun t => P.readableRec t && decide (t < P.types.size)

theorem trodAll_carry (hl : laidOutB P = true) {W W' : World} (hb : Below W.heap.size W W') : ∀ {ts : List TypeId} {vs : List Value} {ds : List (DataW H)} {ps : List MemPlace}, readB P ts = true → DataW.TrodAll enc P W 0 (fun _ => true) true ts vs ds ps → (∀ x ∈ ps, x.block < W.heap.size) →
    DataW.TrodAll enc P W' 0 (fun b => decide (b < W.heap.size)) true ts vs ds ps
  | [], vs, ds, ps, _, h, _ => by
    obtain ⟨rfl, rfl, rfl⟩ := trodAll_nil h
    rfl
  | t :: ts, vs, ds, ps, hr, h, hlt => by
    obtain ⟨v, vs', d, ds', p, q, rfl, rfl, rfl, h1, h2⟩ := trodAll_cons h
    unfold readB at hr
    rw [List.all_cons] at hr
    simp only [Bool.and_eq_true, decide_eq_true_eq] at hr
    exact ⟨p, q, Below.trod hl hr.1.1 hr.1.2 h1 hb (fun x hx => hlt x (by simp [hx])), trodAll_carry hl hb (by unfold readB; exact hr.2) h2 (fun x hx => hlt x (by simp [hx])), rfl⟩

theorem law_post {f : Func} {s : ChangeSpec} {apart fresh handsOn : Bool} {W W' : World} {args : Array Value} {ds : List (DataW H)} {ps : List MemPlace} {B : TypeId} (hl : laidOutB P = true) (hr : readB P f.params.toList = true) (hvars : s.vars = [])
    (hW : DataW.Whole enc P f.params.toList s.vars apart W args.toList ds [] ps) (hA : DataW.TrodAll enc P W 0 (fun _ => true) true f.params.toList args.toList ds ps) (hg : W.grownBy W' none) (hres : f.resultTypes = #[B]) (hB : P.underlying B = some .bool)
    (hs : s.fn H ds = { results := [.lit (.bool true)], args := ds }) : s.post enc P f apart fresh handsOn false W args (.bool true) W' := by
  have hb : Below W.heap.size W W' := (Below.refl _ W).grown hg (Nat.le_refl _) (by simp)
  have hlt : ∀ x ∈ ps, x.block < W.heap.size := fun x hx => by simpa using hW.lt x hx
  refine ⟨ds, [], ps, [], ps, [], hW, ?_, ?_, ?_, hb.frame _, fun h => by cases h⟩
  · rw [List.append_nil, hs, hres]
    exact trodAll_mk1 (shut_bool hB true)
  · rw [List.append_nil, hs]
    exact trodAll_carry hl hb hr hA hlt
  · rw [List.append_nil, hs, hvars]
    rfl

/-- What the arguments read as. -/
def ArgsRd (W : World) (as : List PV) (args : Array Value) : Prop := args.size = as.length ∧ ∀ (i : Nat) (p : PV) (v : Value), as[i]? = some p → args[i]? = some v → Rd W (fun _ => False) p v

end

def RdAll (W : World) : List PV → List Value → Prop
  | [], [] => True
  | p :: ps, v :: vs => Rd W (fun _ => False) p v ∧ RdAll W ps vs
  | _, _ => False
theorem RdAll.args {W : World} : ∀ {as : List PV} {vs : List Value}, RdAll W as vs → vs.length = as.length ∧ ∀ (i : Nat) (p : PV) (v : Value), as[i]? = some p → vs[i]? = some v → Rd W (fun _ => False) p v
  | [], [], _ => ⟨rfl, fun i p v h => by simp at h⟩
  | p :: ps, v :: vs, h => by
    obtain ⟨h1, h2⟩ := h.2.args
    refine ⟨by simp [h1], fun i q u hq hu => ?_⟩
    cases i with
    | zero => simp at hq hu; subst hq; subst hu; exact h.1
    | succ i => exact h2 i q u (by simpa using hq) (by simpa using hu)
  | [], _ :: _, h | _ :: _, [], h => by simp [RdAll] at h
theorem argsRd_all {W : World} {xs : List PV} {args : Array Value} (h : RdAll W xs args.toList) : ArgsRd W xs args := by
  obtain ⟨h1, h2⟩ := h.args
  exact ⟨by simpa using h1, fun i p v hp hv => h2 i p v hp (by simpa using hv)⟩

/-- A value of one cell, out of its cells. -/
def oneT (P : Program) (T : TypeId) : Bool := match P.underlying T with
  | some .bool | some (.int _) | some .string | some (.slice _) => true
  | _ => false
theorem arg_one {W : World} {P : Program} {base : Nat} {T : TypeId} {v : Value} {p : PV} (h : Reads1 W (fun _ => False) v.cells.toList [p]) (hv : Value.okWide P W .any base T v) (ht : oneT P T = true) : Rd W (fun _ => False) p v := by
  have : v.cells.toList = [v] := by
    unfold oneT at ht
    unfold Value.okWide at hv
    split at hv
    · rename_i hu; rw [hu] at ht; cases ht
    · rename_i hu; rw [hu] at ht; cases ht
    · unfold Cell.okWide at hv
      cases v <;> first | rfl | skip
      all_goals
        exfalso
        revert hv
        split <;> simp_all [Cell.ok]
        try (split <;> simp_all)
  rw [this] at h
  exact h.2.2 0 p v rfl rfl
/-- A struct or array, out of its cells. -/
def aggT (P : Program) (T : TypeId) : Bool := match P.underlying T with
  | some (.struct _) | some (.array _ _) => true
  | _ => false
theorem arg_agg {W : World} {P : Program} {base : Nat} {T : TypeId} {v : Value} {ps : List PV} (h : Reads1 W (fun _ => False) v.cells.toList ps) (hv : Value.okWide P W .any base T v) (ht : aggT P T = true) : Rd W (fun _ => False) (.agg ps) v := by
  have : ∃ cs, v = .agg cs := by
    unfold aggT at ht
    unfold Value.okWide at hv
    split at hv
    · obtain ⟨cs, h, _⟩ := hv; exact ⟨cs, h⟩
    · obtain ⟨cs, h, _⟩ := hv; exact ⟨cs, h⟩
    · rename_i h1 h2
      split at ht
      · rename_i hu; exact absurd hu (h1 _)
      · rename_i hu; exact absurd hu (h2 _ _)
      · cases ht
  obtain ⟨cs, rfl⟩ := this
  have := rd_of_reads1 h
  simpa [Value.cells] using this
end Go.Abs

/- The arguments' readings with their bulk; a law's second row. -/
namespace Go.Abs
variable {G : List (Nat × List PV)}
open Go.ChangeShapes Go.WideShapes Go.ChangeAt Go.RowKit

/-- A count of what a reading holds. -/
structure Bk (H : Type) where
  bk : DataW H → Nat
  al : List (DataW H) → Nat
  str : ∀ s, s.length + 1 ≤ bk (.lit (.string s))
  one : ∀ d, 1 ≤ bk d
  sl : ∀ e s, al e + 1 ≤ bk (.slice e s)
  ag : ∀ l, al l + 1 ≤ bk (.agg l)
  nil : al [] = 0
  cons : ∀ d l, al (d :: l) = bk d + al l
/-- The sum over a list. -/
def lsum {α : Type} (u : α → Nat) : List α → Nat
  | [] => 0
  | x :: l => u x + lsum u l

section
variable {H : Type} (K : Bk H) (enc : TypeId × Value → H) (P : Program) (w : World)
/-- .. and it counts `u y` at least. -/
def DecU (fuel : Nat) (T : TypeId) {α : Type} (e : α → List PV) (good : α → Prop) (u : α → Nat) : Prop :=
  ∀ (cs : List Value) (x : DataW H × List MemPlace), DataW.trod enc P w 0 (fun _ => true) true fuel T cs = some x → ∃ y, good y ∧ u y ≤ K.bk x.1 ∧ Reads1 w (fun _ => False) cs (e y)
variable {K enc P w}
theorem decU_bool {fuel T : Nat} (h : P.underlying T = some .bool) : DecU K enc P w fuel T eB (fun _ => True) (fun _ => 1) := fun cs x hx => by
  obtain ⟨y, h1, h2⟩ := dec_bool h cs x hx
  exact ⟨y, h1, K.one _, h2⟩
theorem decU_int {fuel T : Nat} (h : P.underlying T = some (.int .i64)) : DecU K enc P w fuel T eI i64ok (fun _ => 1) := fun cs x hx => by
  obtain ⟨y, h1, h2⟩ := dec_int h cs x hx
  exact ⟨y, h1, K.one _, h2⟩
theorem decU_str {fuel T : Nat} (h : P.underlying T = some .string) : DecU K enc P w fuel T eS strok (fun s => s.length + 1) := fun cs x hx => by
  obtain ⟨s, rfl, rfl, hs⟩ := DataW.trod_string h hx
  refine ⟨s.data.toList, by show s.data.toList.length ≤ maxLen; rw [Array.length_toList]; exact hs, K.str _, reads1_one ?_ rfl⟩
  have := Rd.str (w := w) (O := fun _ => False) s.data.toList
  simpa using this
theorem al_ge : ∀ (l : List (DataW H)) (ns : List Nat), ns.length = l.length → (∀ (i n : Nat) (d : DataW H), ns[i]? = some n → l[i]? = some d → n ≤ K.bk d) → lsum id ns ≤ K.al l
  | [], [], _, _ => by rw [K.nil]; exact Nat.le_refl _
  | d :: l, n :: ns, hl, h => by
    rw [K.cons]
    simp only [lsum, id]
    have h1 := h 0 n d rfl rfl
    have h2 := al_ge l ns (by simpa using hl) (fun i n d hn hd => h (i + 1) n d (by simpa using hn) (by simpa using hd))
    omega
  | [], _ :: _, hl, _ => by simp at hl
  | _ :: _, [], hl, _ => by simp at hl
theorem lsum_map {α β : Type} (u : β → Nat) (f : α → β) : ∀ l : List α, lsum u (l.map f) = lsum (fun x => u (f x)) l
  | [] => rfl
  | x :: l => by simp only [List.map_cons, lsum, lsum_map u f l]
theorem lsum_id {α : Type} (u : α → Nat) (l : List α) : lsum id (l.map u) = lsum u l := by rw [lsum_map]; rfl

/-- The elements of a slice read, and what they count. -/
theorem decU_slice {fuel T E sz : Nat} {α : Type} {e : α → List PV} {good : α → Prop} {u : α → Nat} (h : P.underlying T = some (.slice E)) (hsz : P.cellsOf E = sz) (hz : Nat.blt 0 sz = true) (hlen : ∀ y, (e y).length = sz) (hE : ∀ n, n < fuel → DecU K enc P w n E e good u) :
    DecU K enc P w fuel T (eL sz e) (listok good) (fun l => lsum u l + 1) := fun cs x hx => by
  -- the elements' own counts go along as a part of what is good
  have hz' : 0 < sz := by simpa [Nat.blt_eq] using hz
  rcases DataW.trod_slice h hx with ⟨rfl, rfl⟩ | ⟨a, len, cap, elems, rest, n, hf, rfl, rfl, _, h1, h2, h3, h4, h5⟩
  · exact ⟨[], ⟨Nat.zero_le _, by simp⟩, K.one _, reads1_one (.vs0 sz) rfl⟩
  · have el : ∀ i, i < len → ∃ y cs' ei, elems[i]? = some ei ∧ u y ≤ K.bk ei.1 ∧ good y ∧ w.cells? 0 (a.add (i * sz)) sz = some cs' ∧ Reads1 w (fun _ => False) cs' (e y) := by
      intro i hi
      have h6 := h4 i hi
      rw [hsz] at h6
      obtain ⟨ei, hei⟩ : ∃ ei, elems[i]? = some ei := ⟨elems[i]'(by omega), List.getElem?_eq_getElem (by omega)⟩
      rw [hei] at h6
      obtain ⟨cs', h7, h8⟩ := Option.bind_eq_some_iff.1 h6
      obtain ⟨y, h9, h10, h11⟩ := hE n (by omega) cs' _ h8
      exact ⟨y, cs', ei, hei, h10, h9, h7, h11⟩
    rcases Nat.eq_zero_or_pos len with h0 | h0
    · subst h0
      exact ⟨[], ⟨Nat.zero_le _, by simp⟩, K.one _, reads1_one (.vsz sz (some a) cap (fun e => by cases e) h2) rfl⟩
    · obtain ⟨f, hfs⟩ : ∃ f : Nat → α, ∀ i, i < len → ∃ cs' ei, elems[i]? = some ei ∧ u (f i) ≤ K.bk ei.1 ∧ good (f i) ∧ w.cells? 0 (a.add (i * sz)) sz = some cs' ∧ Reads1 w (fun _ => False) cs' (e (f i)) := by
        obtain ⟨y0, _⟩ := el 0 h0
        refine ⟨fun i => if hi : i < len then (el i hi).choose else y0, fun i hi => ?_⟩
        simp only [dif_pos hi]
        exact (el i hi).choose_spec
      -- the reading of the whole, by the rule without counts
      have hd : ∃ y, (y = (List.range len).map f) ∧ Reads1 w (fun _ => False) [.slice (some a) len cap] (eL sz e y) := by
        have hsp : a.spot = none := by
          obtain ⟨cs', _, _, _, _, hc, _⟩ := hfs 0 h0
          obtain ⟨_, hl, hcell⟩ := World.cells?_some hc
          have := hcell 0 hz'
          obtain ⟨v, hv⟩ : ∃ v, cs'[0]? = some v := ⟨cs'[0]'(by omega), List.getElem?_eq_getElem (by omega)⟩
          rw [hv] at this
          simpa [Addr.add] using World.cell?_spot this
        obtain ⟨b, off, sp⟩ := a
        simp only at hsp; subst hsp
        refine ⟨(List.range len).map f, rfl, reads1_one ?_ rfl⟩
        have hL : (List.map e ((List.range len).map f)).length = len := by simp
        have cellv : ∀ k, k < len * sz → ∃ v, w.cell? ⟨b, off + k, none⟩ = some v ∧ ∀ p, (e (f (k / sz)))[k % sz]? = some p → Rd w (fun _ => False) p v := by
          intro k hk
          have hq : k / sz < len := Nat.div_lt_of_lt_mul (by rw [Nat.mul_comm]; exact hk)
          have hm : k % sz < sz := Nat.mod_lt _ hz'
          obtain ⟨cs', _, _, _, _, hc, hr⟩ := hfs (k / sz) hq
          obtain ⟨_, hl, hcell⟩ := World.cells?_some hc
          have h6 := hcell (k % sz) hm
          have hv : cs'[k % sz]? = some (cs'[k % sz]'(by omega)) := List.getElem?_eq_getElem (by omega)
          refine ⟨cs'[k % sz]'(by omega), ?_, fun p hp => hr.2.2 _ p _ hp hv⟩
          rw [hv] at h6
          have e1 : off + k / sz * sz + k % sz = off + k := by
            have := Nat.div_add_mod k sz
            rw [Nat.mul_comm] at this
            omega
          simp only [Addr.add_lit] at h6
          rw [e1] at h6
          exact h6
        have hus : ∃ us : Nat → Value, ∀ k, k < len * sz → w.cell? ⟨b, off + k, none⟩ = some (us k) ∧ ∀ p, (e (f (k / sz)))[k % sz]? = some p → Rd w (fun _ => False) p (us k) := by
          refine ⟨fun k => if hk : k < len * sz then (cellv k hk).choose else undef, fun k hk => ?_⟩
          simp only [dif_pos hk]
          exact (cellv k hk).choose_spec
        obtain ⟨us, hus⟩ := hus
        have hb : b < w.heap.size := by
          have h6 := (hus 0 (Nat.mul_pos h0 hz')).1
          rcases Nat.lt_or_ge b w.heap.size with h7 | h7
          · exact h7
          · simp [World.cell?, Array.getElem?_eq_none h7] at h6
        have := Rd.vs (w := w) (O := fun _ => False) sz (List.map e ((List.range len).map f)) b off cap us (fun h => h) hb (by rw [hL]; omega) h2 (fun row hr => ?_) (fun row hr c hc => ?_) (fun k hk => ?_) (fun i j row c hi hj => ?_)
        · rw [hL] at this; exact this
        · obtain ⟨y, _, rfl⟩ := List.mem_map.1 hr
          exact hlen y
        · obtain ⟨y, hy, rfl⟩ := List.mem_map.1 hr
          obtain ⟨i, hi, rfl⟩ := List.mem_map.1 hy
          obtain ⟨cs', _, _, _, _, _, hr⟩ := hfs i (by simpa using hi)
          exact hr.2.1 c hc
        · rw [hL] at hk
          exact (hus k hk).1
        · have hi' : i < len := by have := (List.getElem?_eq_some_iff.1 hi).1; rw [hL] at this; exact this
          simp [hi'] at hi
          subst hi
          have hj' : j < sz := by have := (List.getElem?_eq_some_iff.1 hj).1; rw [hlen] at this; exact this
          have h6 := (hus (i * sz + j) (index_lt hi' hj')).2 c
          have e1 : (i * sz + j) / sz = i := by rw [Nat.mul_comm, Nat.mul_add_div hz', Nat.div_eq_of_lt hj', Nat.add_zero]
          have e2 : (i * sz + j) % sz = j := by rw [Nat.mul_comm, Nat.mul_add_mod, Nat.mod_eq_of_lt hj']
          rw [e1, e2] at h6
          exact h6 hj
      obtain ⟨y, rfl, hr⟩ := hd
      refine ⟨(List.range len).map f, ⟨by simp; omega, fun y hy => ?_⟩, ?_, hr⟩
      · obtain ⟨i, hi, rfl⟩ := List.mem_map.1 hy
        obtain ⟨_, _, _, _, hg, _⟩ := hfs i (by simpa using hi)
        exact hg
      · refine Nat.le_trans (Nat.succ_le_succ ?_) (K.sl _ _)
        rw [← lsum_id]
        refine al_ge _ _ (by simp [h3]) fun i n d hn hd => ?_
        rw [List.map_map, List.getElem?_map, Option.map_eq_some_iff] at hn
        obtain ⟨j, hj, rfl⟩ := hn
        have hji : j = i ∧ i < len := by
          rw [List.getElem?_eq_some_iff] at hj
          obtain ⟨h6, h7⟩ := hj
          simp at h6 h7
          exact ⟨h7.symm, h6⟩
        obtain ⟨rfl, hi⟩ := hji
        obtain ⟨_, ei, h6, h7, _⟩ := hfs j hi
        rw [List.getElem?_map, h6] at hd
        simp at hd; subst hd
        exact h7

/-! Structs, part by part. -/
theorem decU_parts {fuel T n : Nat} {l : List (TypeId × Nat × Nat)} {cs : List Value} {x : DataW H × List MemPlace} (h : partsB P T l n = true) (hx : DataW.trod enc P w 0 (fun _ => true) true fuel T cs = some x) :
    ∃ (m : Nat) (xs : List (DataW H × List MemPlace)), m < fuel ∧ cs.length = n ∧ x.1 = .agg (xs.map (·.1)) ∧ xs.length = l.length ∧ ∀ (i t off sz : Nat), l[i]? = some (t, off, sz) → ∃ y, xs[i]? = some y ∧ DataW.trod enc P w 0 (fun _ => true) true m t ((cs.drop off).take sz) = some y := by
  unfold partsB at h
  split at h
  · rename_i fs hu
    simp only [Bool.and_eq_true, beq_iff_eq] at h
    obtain ⟨rfl, rfl⟩ := h
    obtain ⟨xs, m, hf, he, hl, hxs, hp⟩ := DataW.trod_struct hu hx
    refine ⟨m, xs, by omega, hl, by rw [he], by simp [hxs], fun i t off sz hi => ?_⟩
    rw [List.getElem?_map, Option.map_eq_some_iff] at hi
    obtain ⟨f, hfi, he⟩ := hi
    injection he with e1 e2; injection e2 with e2 e3
    subst e1; subst e2; subst e3
    have hfi' : fs[i]? = some f := by simpa using hfi
    have hlt : i < xs.length := by rw [hxs]; exact (Array.getElem?_eq_some_iff.1 hfi').1
    exact ⟨xs[i], List.getElem?_eq_getElem hlt, by rw [hp i f hfi']; exact List.getElem?_eq_getElem hlt⟩
  · cases h
/-- What a struct counts, by its parts. -/
theorem agg_ge {xs : List (DataW H × List MemPlace)} {d : DataW H} {n : Nat} (ns : List Nat) (hd : d = .agg (xs.map (·.1))) (hl : xs.length = n) (hn : ns.length = n) (h : ∀ (i n : Nat) (y : DataW H × List MemPlace), ns[i]? = some n → xs[i]? = some y → n ≤ K.bk y.1) : lsum id ns + 1 ≤ K.bk d := by
  subst hd
  refine Nat.le_trans (Nat.succ_le_succ (al_ge _ _ (by simp [hl, hn]) fun i n d hi hd => ?_)) (K.ag _)
  rw [List.getElem?_map, Option.map_eq_some_iff] at hd
  obtain ⟨y, hy, rfl⟩ := hd
  exact h i n y hi hy
/-- The parts' counts, one by one. -/
def NsGe (K : Bk H) (xs : List (DataW H × List MemPlace)) : Nat → List Nat → Prop
  | _, [] => True
  | i, n :: ns => (∃ y, xs[i]? = some y ∧ n ≤ K.bk y.1) ∧ NsGe K xs (i + 1) ns
theorem NsGe.spec {xs : List (DataW H × List MemPlace)} : ∀ {ns : List Nat} {k : Nat}, NsGe K xs k ns → ∀ (i n : Nat) (y : DataW H × List MemPlace), ns[i]? = some n → xs[k + i]? = some y → n ≤ K.bk y.1
  | [], _, _, i, n, y, hi, _ => by simp at hi
  | n' :: ns, k, h, i, n, y, hi, hy => by
    cases i with
    | zero =>
      simp at hi; subst hi
      obtain ⟨y', h1, h2⟩ := h.1
      rw [Nat.add_zero, h1] at hy; cases hy
      exact h2
    | succ i => exact NsGe.spec h.2 i n y (by simpa using hi) (by rw [show k + 1 + i = k + (i + 1) by omega]; exact hy)
theorem agg_ns {xs : List (DataW H × List MemPlace)} {d : DataW H} {n : Nat} (ns : List Nat) (hd : d = .agg (xs.map (·.1))) (hl : xs.length = n) (hn : ns.length = n) (h : NsGe K xs 0 ns) : lsum id ns + 1 ≤ K.bk d :=
  agg_ge ns hd hl hn (fun i n y h1 h2 => h.spec i n y h1 (by rw [Nat.zero_add]; exact h2))

theorem arrU_parts {fuel T n E sz : Nat} {cs : List Value} {x : DataW H × List MemPlace} (h : arrB P T n E sz = true) (hx : DataW.trod enc P w 0 (fun _ => true) true fuel T cs = some x) :
    ∃ (m : Nat) (xs : List (DataW H × List MemPlace)), m < fuel ∧ cs.length = n * sz ∧ x.1 = .agg (xs.map (·.1)) ∧ xs.length = n ∧ ∀ i, i < n → ∃ y, xs[i]? = some y ∧ DataW.trod enc P w 0 (fun _ => true) true m E ((cs.drop (i * sz)).take sz) = some y := by
  unfold arrB at h
  split at h
  · rename_i m e hu
    simp only [Bool.and_eq_true, beq_iff_eq] at h
    obtain ⟨⟨rfl, rfl⟩, rfl, h4⟩ := h
    obtain ⟨xs, m', hf, he, hl, hxs, hp⟩ := DataW.trod_array hu hx
    refine ⟨m', xs, by omega, by rw [hl, h4], by rw [he], hxs, fun i hi => ?_⟩
    exact ⟨xs[i], List.getElem?_eq_getElem (by omega), by rw [hp i hi]; exact List.getElem?_eq_getElem (by omega)⟩
  · cases h
theorem decU_arr4 {fuel T E sz : Nat} {α : Type} {e : α → List PV} {good : α → Prop} {u : α → Nat} (h : arrB P T 4 E sz = true) (hlen : ∀ y, (e y).length = sz) (hE : ∀ n, n < fuel → DecU K enc P w n E e good u) :
    DecU K enc P w fuel T (eA4 e) (fun x => good x.a0 ∧ good x.a1 ∧ good x.a2 ∧ good x.a3) (fun x => u x.a0 + (u x.a1 + (u x.a2 + (u x.a3 + 0))) + 1) := fun cs x hx => by
  obtain ⟨m, xs, hm, hl, hd, hxl, hp⟩ := arrU_parts h hx
  obtain ⟨z0, k0, q0⟩ := hp 0 (by omega)
  obtain ⟨z1, k1, q1⟩ := hp 1 (by omega)
  obtain ⟨z2, k2, q2⟩ := hp 2 (by omega)
  obtain ⟨z3, k3, q3⟩ := hp 3 (by omega)
  obtain ⟨y0, g0, b0, r0⟩ := hE m hm _ _ q0
  obtain ⟨y1, g1, b1, r1⟩ := hE m hm _ _ q1
  obtain ⟨y2, g2, b2, r2⟩ := hE m hm _ _ q2
  obtain ⟨y3, g3, b3, r3⟩ := hE m hm _ _ q3
  refine ⟨⟨y0, y1, y2, y3⟩, ⟨g0, g1, g2, g3⟩, agg_ns [u y0, u y1, u y2, u y3] hd hxl rfl ⟨⟨z0, k0, b0⟩, ⟨z1, k1, b1⟩, ⟨z2, k2, b2⟩, ⟨z3, k3, b3⟩, trivial⟩, ?_⟩
  have e0 : cs.drop 0 = cs := List.drop_zero
  rw [← e0]
  have := reads_cons (off := 0) (by simpa using r0) (hlen y0) (reads_cons (by simpa using r1) (hlen y1) (reads_cons (by rw [show 0 + sz + sz = 2 * sz by omega]; exact r2) (hlen y2) (reads_cons (by rw [show 0 + sz + sz + sz = 3 * sz by omega]; exact r3) (hlen y3) (reads_nil (by omega)))))
  simpa using this
theorem decU_arr2 {fuel T E sz : Nat} {α : Type} {e : α → List PV} {good : α → Prop} {u : α → Nat} (h : arrB P T 2 E sz = true) (hlen : ∀ y, (e y).length = sz) (hE : ∀ n, n < fuel → DecU K enc P w n E e good u) :
    DecU K enc P w fuel T (eA2 e) (fun x => good x.a0 ∧ good x.a1) (fun x => u x.a0 + (u x.a1 + 0) + 1) := fun cs x hx => by
  obtain ⟨m, xs, hm, hl, hd, hxl, hp⟩ := arrU_parts h hx
  obtain ⟨z0, k0, q0⟩ := hp 0 (by omega)
  obtain ⟨z1, k1, q1⟩ := hp 1 (by omega)
  obtain ⟨y0, g0, b0, r0⟩ := hE m hm _ _ q0
  obtain ⟨y1, g1, b1, r1⟩ := hE m hm _ _ q1
  refine ⟨⟨y0, y1⟩, ⟨g0, g1⟩, agg_ns [u y0, u y1] hd hxl rfl ⟨⟨z0, k0, b0⟩, ⟨z1, k1, b1⟩, trivial⟩, ?_⟩
  have e0 : cs.drop 0 = cs := List.drop_zero
  rw [← e0]
  have := reads_cons (off := 0) (by simpa using r0) (hlen y0) (reads_cons (by rw [show 0 + sz = 1 * sz by omega]; exact r1) (hlen y1) (reads_nil (by omega)))
  simpa using this
theorem decU_arg {T : TypeId} {v : Value} {d : DataW H} {ps : List MemPlace} {α : Type} {e : α → List PV} {good : α → Prop} {u : α → Nat} (hT : ∀ n, DecU K enc P w n T e good u) (h : DataW.Trod enc P w 0 (fun _ => true) true T v d ps) : ∃ y, good y ∧ u y ≤ K.bk d ∧ Reads1 w (fun _ => False) v.cells.toList (e y) := by
  obtain ⟨fuel, hf⟩ := h
  exact hT fuel _ _ hf
end

section
variable {H : Type} {enc : TypeId × Value → H}
end
end Go.Abs

/- A law's row whose package variables are listed, out of its contract. -/
namespace Go.Abs
variable {G : List (Nat × List PV)}
open Go.ChangeShapes Go.WideShapes Go.ChangeAt Go.RowKit

section
variable {P : Program} {w : World}
/-- What reads as `d` at type `T` is `row`. -/
def ReadsD (P : Program) (w : World) (T : TypeId) (d : DataW Unit) (row : List PV) : Prop :=
  ∀ (fuel : Nat) (cs : List Value) (ps : List MemPlace), DataW.trod (fun _ => ()) P w 0 (fun _ => true) false fuel T cs = some (d, ps) → Reads1 w (fun _ => False) cs row
theorem rdD_str {T : TypeId} (h : P.underlying T = some .string) (s : List UInt8) : ReadsD P w T (.lit (.string s)) [.str s] := fun fuel cs ps hx => by
  obtain ⟨b, rfl, he, _⟩ := DataW.trod_string h hx
  simp only [Prod.mk.injEq, DataW.lit.injEq, Lit.string.injEq] at he
  obtain ⟨rfl, _⟩ := he
  refine reads1_one ?_ rfl
  have := Rd.str (w := w) (O := fun _ => False) b.data.toList
  simpa using this
/-- The parts of an array, one by one. -/
def ReadsAll (P : Program) (w : World) (E : TypeId) : List (DataW Unit) → List (List PV) → Prop
  | [], [] => True
  | d :: ds, r :: rs => ReadsD P w E d r ∧ ReadsAll P w E ds rs
  | _, _ => False
theorem reads_flat {E sz : Nat} (cs : List Value) : ∀ (ds : List (DataW Unit)) (rs : List (List PV)) (k : Nat), ReadsAll P w E ds rs → (∀ r ∈ rs, r.length = sz) → cs.length = (k + ds.length) * sz →
    (∀ i d, ds[i]? = some d → ∃ m ps, DataW.trod (fun _ => ()) P w 0 (fun _ => true) false m E ((cs.drop ((k + i) * sz)).take sz) = some (d, ps)) → Reads1 w (fun _ => False) (cs.drop (k * sz)) rs.flatten
  | [], [], k, _, _, hl, _ => by simpa using reads_nil (w := w) (cs := cs) (off := k * sz) (by simpa using hl)
  | d :: ds, r :: rs, k, h, hz, hl, hp => by
    rw [List.flatten_cons]
    refine reads_cons (sz := sz) ?_ (hz r (by simp)) ?_
    · obtain ⟨m, ps, h0⟩ := hp 0 d rfl
      exact h.1 m _ ps (by simpa using h0)
    · have e : k * sz + sz = (k + 1) * sz := by rw [Nat.add_mul]; omega
      rw [e]
      refine reads_flat cs ds rs (k + 1) h.2 (fun r hr => hz r (by simp [hr])) (by rw [hl]; simp only [List.length_cons]; congr 1; omega) fun i d hi => ?_
      have := hp (i + 1) d (by simpa using hi)
      rw [show k + (i + 1) = k + 1 + i by omega] at this
      exact this
  | [], _ :: _, _, h, _, _, _ | _ :: _, [], _, h, _, _, _ => by simp [ReadsAll] at h
theorem rdD_array {T E n sz : Nat} {ds : List (DataW Unit)} {rs : List (List PV)} (h : arrB P T n E sz = true) (hn : ds.length = n) (hz : ∀ r ∈ rs, r.length = sz) (hd : ReadsAll P w E ds rs) : ReadsD P w T (.agg ds) rs.flatten := fun fuel cs ps hx => by
  unfold arrB at h
  split at h
  · rename_i m e hu
    simp only [Bool.and_eq_true, beq_iff_eq] at h
    obtain ⟨⟨rfl, rfl⟩, rfl, h4⟩ := h
    obtain ⟨xs, m', hf, he, hl, hxs, hp⟩ := DataW.trod_array hu hx
    simp only [Prod.mk.injEq, DataW.agg.injEq] at he
    obtain ⟨rfl, _⟩ := he
    have := reads_flat (sz := P.cellsOf e) cs (xs.map (·.1)) rs 0 hd hz (by rw [hl, h4]; simp [hxs]) fun i d hi => by
      rw [List.getElem?_map, Option.map_eq_some_iff] at hi
      obtain ⟨x, hx, rfl⟩ := hi
      have hlt : i < m := by rw [← hxs]; exact (List.getElem?_eq_some_iff.1 hx).1
      refine ⟨m', x.2, ?_⟩
      have := hp i hlt
      rw [hx] at this
      rw [Nat.zero_add]
      exact this
    simpa using this
  · cases h
/-- A listed variable's block. -/
theorem glob_rd {name : String} {g T : Nat} {d : DataW Unit} {row : List PV} (hg : P.globalNamed name = some g) (hT : (P.globals[g]?).map (·.type) = some T) (hd : ReadsD P w T d row)
    (h : ∃ g t cs fuel p, P.globalNamed name = some g ∧ (P.globals[g]?).map (·.type) = some t ∧ w.var? P name = some cs ∧ DataW.trod (fun _ => ()) P w 0 (fun _ => true) false fuel t cs.toList = some (d, p)) (h0 : 0 < row.length) :
    Rd w (fun _ => False) (.vp row) (.pointer (some ⟨g, 0, none⟩)) := by
  obtain ⟨g', t', cs, fuel, p, h1, h2, h3, h4⟩ := h
  obtain rfl : g = g' := Option.some.inj (hg.symm.trans h1)
  obtain rfl : T = t' := Option.some.inj (hT.symm.trans h2)
  obtain ⟨r1, r2, r3⟩ := hd fuel _ _ h4
  have hcell : ∀ i, w.cell? ⟨g, i, none⟩ = cs[i]? := World.var?_cell hg h3
  have hsz : cs.size = row.length := by simpa using r1
  have hb : g < w.heap.size := by
    rcases Nat.lt_or_ge g w.heap.size with h7 | h7
    · exact h7
    · have := hcell 0
      rw [Array.getElem?_eq_getElem (by omega)] at this
      simp [World.cell?, Array.getElem?_eq_none h7] at this
  refine .vp row g 0 (fun k => cs.getD k undef) (fun h => h) hb r2 (fun k hk => ?_) (fun j q hq => ?_)
  · rw [Nat.zero_add, hcell, Array.getElem?_eq_getElem (by omega)]
    simp [show k < cs.size by omega]
  · have hj : j < row.length := (List.getElem?_eq_some_iff.1 hq).1
    refine r3 j q _ hq ?_
    rw [Array.getElem?_toList, Array.getElem?_eq_getElem (by omega)]
    simp [show j < cs.size by omega]
/-- One of the listed variables. -/
theorem laid_at {laid : List (String × DataW Unit)} {ps : List MemPlace} (h : DataW.LaidVars P w laid ps) : ∀ x ∈ laid, ∃ g t cs fuel p, P.globalNamed x.1 = some g ∧ (P.globals[g]?).map (·.type) = some t ∧ w.var? P x.1 = some cs ∧ DataW.trod (fun _ => ()) P w 0 (fun _ => true) false fuel t cs.toList = some (x.2, p) := by
  induction laid generalizing ps with
  | nil => intro x hx; cases hx
  | cons y l ih =>
    intro x hx
    obtain ⟨g, t, cs, fuel, p, q, h1, h2, h3, h4, h5, _⟩ := h
    rcases List.mem_cons.1 hx with rfl | hx
    · exact ⟨g, t, cs, fuel, p, h1, h2, h3, h4⟩
    · exact ih h5 x hx
theorem laid_atH {laid : List (String × DataW Unit)} (hp : (laid.all fun x => x.2.handleName?.isNone) = true) (h : laidMetH P laid w) : ∀ x ∈ laid, ∃ g t cs fuel p, P.globalNamed x.1 = some g ∧ (P.globals[g]?).map (·.type) = some t ∧ w.var? P x.1 = some cs ∧ DataW.trod (fun _ => ()) P w 0 (fun _ => true) false fuel t cs.toList = some (x.2, p) := by
  rw [MakeChecks.laidMetH_plain _ _ _ hp] at h
  obtain ⟨ps, h, _⟩ := h
  exact laid_at h
end

section
variable {H : Type} {enc : TypeId × Value → H} {P : Program}
end
end Go.Abs

/- A law's second row whose package variables are listed. -/
namespace Go.Abs
variable {G : List (Nat × List PV)}
open Go.ChangeShapes Go.WideShapes Go.ChangeAt Go.RowKit
section
variable {H : Type} {enc : TypeId × Value → H}
theorem law_upto_laid {C : Checked} {os : Os} {f : FuncId} {fn : Func} {s : ChangeSpec} {s2 : OpenSpec} {k : (H : Type) → List (DataW H) → Bool} (hk : s2.cond = some k) {F : Stop.Interp} {B : TypeId} {fresh handsOn : Bool} {L : List (String × DataW Unit)}
    (own : ownKnob C.prog.godebug = none) (started : os.Started) (noInit : C.prog.inits.idxOf? f = none) (hfn : C.prog.funcs[f]? = some fn)
    (witness : ∃ (w : World) (tape : Tape) (i : Input), w.os = os ∧ (w.forCall tape i).Shaped C.prog ∧ i.vars = [] ∧ Input.okWide C.prog (w.forCall tape i) .any w.heap.size f i ∧
      s2.preRow enc C.prog fn [] false L (w.forCall tape i).memory i.args ∧ ({} : Assume).holds C.prog (lone (Frame.enter C.prog f i.args .normal) [] (w.forCall tape i)))
    (hl : laidOutB C.prog = true) (hr : readB C.prog fn.params.toList = true) (hvars : s.vars = []) (hv2 : s2.vars = []) (hres : fn.resultTypes = #[B]) (hB : C.prog.underlying B = some .bool)
    (hs : ∀ ds : List (DataW H), ds.length = fn.params.size → s.fn H ds = { results := [.lit (.bool true)], args := ds })
    (hpost : ∀ W args v W', s.post enc C.prog fn false fresh handsOn false W args v W' → (s2.at F).post enc C.prog fn false fresh handsOn false W args v W')
    (hGL : ∀ W : World, laidMetH C.prog L W → GlobOk G W (fun _ => False))
    (hcall : ∀ (W : World) (base : Nat) (args : Array Value) (ds : List (DataW H)) (ps : List MemPlace), (∀ (j : Nat) t v, fn.params[j]? = some t → args[j]? = some v → Value.okWide C.prog W .any base t v) → DataW.TrodAll enc C.prog W 0 (fun _ => true) true fn.params.toList args.toList ds ps → k H ds = true → ∃ as : List PV, ArgsRd W as args ∧ Fn G C.prog f as [.p (.bool true)]) :
    ReturnsInHanded {} C os f .any (s2.preRow enc C.prog fn [] false L) ((s2.at F).post enc C.prog fn false fresh handsOn false) := by
  refine returnsInHanded_of_row (C := C) (s := s2) own started noInit hfn witness ?_
  intro W base args ds gs before hval hW _ hkk _ hL _ _
  have hkk := hkk k hk
  have hW0 : DataW.Whole enc C.prog fn.params.toList s.vars false W args.toList ds gs before := by rw [hvars, ← hv2]; exact hW
  have hW' := hW0
  obtain ⟨p, q, hA, hV, rfl, hfz, hnd⟩ := hW0
  have hV' : gs = [] ∧ q = [] := by rw [hvars] at hV; exact trodVars_none hV
  obtain ⟨rfl, rfl⟩ := hV'
  rw [List.append_nil] at hkk
  obtain ⟨as, ⟨h1, h2⟩, h3⟩ := hcall W base args ds p hval hA hkk
  refine (h3 W (fun _ => False) args (fun _ h => h.elim) (hGL W hL) h1 h2).mono ?_
  rintro e W' ⟨v, O', rfl, hg, _, hrt⟩
  have hv : v = .bool true := by
    have : Rd W' O' (.bool true) v := hrt
    cases this; rfl
  subst hv
  have hlen : ∀ {ts : List TypeId} {vs : List Value} {ds : List (DataW H)} {ps : List MemPlace}, DataW.TrodAll enc C.prog W 0 (fun _ => true) true ts vs ds ps → ds.length = ts.length := by
    intro ts
    induction ts with
    | nil => intro vs ds ps h; obtain ⟨_, rfl, _⟩ := trodAll_nil h; rfl
    | cons t ts ih => intro vs ds ps h; obtain ⟨v, vs', d, ds', p, q, rfl, rfl, rfl, h1, h2⟩ := trodAll_cons h; simp [ih h2]
  exact ⟨_, rfl, hpost _ _ _ _ (law_post hl hr hvars (by rw [List.append_nil] at hW'; rw [List.append_nil] at *; exact hW') hA hg hres hB (hs ds (by rw [hlen hA]; simp)))⟩
end
end Go.Abs

