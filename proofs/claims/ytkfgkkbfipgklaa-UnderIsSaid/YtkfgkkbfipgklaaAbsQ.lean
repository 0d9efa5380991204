/- The abstract layer that the proof stands on: no condition. -/
import Derived.Test.YtkfgkkbfipgklaaAbsP
import Derived.ProofKit
import Derived.OpenShut
/- From the arguments' readings to abstract values; a law's row, out of its contract. -/
namespace Go.Abs
open Go.ChangeShapes Go.WideShapes Go.ChangeAt Go.RowKit

section
variable {H : Type} (enc : TypeId × Value → H) (P : Program) (w : World)

/-- What is read at type `T` is one `e y`, with a `y` that is `good`. -/
def DecAt (fuel : Nat) (T : TypeId) {α : Type} (e : α → List PV) (good : α → Prop) : Prop :=
  ∀ (cs : List Value) (x : DataW H × List MemPlace), DataW.trod enc P w 0 (fun _ => true) true fuel T cs = some x → ∃ y, good y ∧ Reads1 w (fun _ => False) cs (e y)

variable {enc P w}
theorem reads1_one {v : Value} {p : PV} (h : Rd w (fun _ => False) p v) (hp : p.one = true) : Reads1 w (fun _ => False) [v] [p] := by
  refine ⟨rfl, by simpa using hp, fun j q u hq hu => ?_⟩
  cases j with
  | zero => simp at hq hu; subst hq; subst hu; exact h
  | succ j => simp at hq

theorem dec_bool {fuel T : Nat} (h : P.underlying T = some .bool) : DecAt enc P w fuel T eB (fun _ => True) := fun cs x hx => by
  obtain ⟨b, rfl, _⟩ := DataW.trod_bool h hx
  exact ⟨b, trivial, reads1_one (.bool b) rfl⟩
def i64ok (n : Int) : Prop := -9223372036854775808 ≤ n ∧ n ≤ 9223372036854775807
theorem dec_int {fuel T : Nat} (h : P.underlying T = some (.int .i64)) : DecAt enc P w fuel T eI i64ok := fun cs x hx => by
  obtain ⟨n, rfl, _, hw⟩ := DataW.trod_int h hx
  exact ⟨n, bounds_i64 hw, reads1_one (.int _ n) rfl⟩
def u8ok (n : Int) : Prop := 0 ≤ n ∧ n ≤ 255
theorem dec_u8 {fuel T : Nat} (h : P.underlying T = some (.int .u8)) : DecAt enc P w fuel T eI_u8 u8ok := fun cs x hx => by
  obtain ⟨n, rfl, _, hw⟩ := DataW.trod_int h hx
  exact ⟨n, bounds_u8 hw, reads1_one (.int _ n) rfl⟩
def strok (s : List UInt8) : Prop := s.length ≤ maxLen
theorem dec_str {fuel T : Nat} (h : P.underlying T = some .string) : DecAt enc P w fuel T eS strok := fun cs x hx => by
  obtain ⟨s, rfl, _, hs⟩ := DataW.trod_string h hx
  refine ⟨s.data.toList, by show s.data.toList.length ≤ maxLen; rw [Array.length_toList]; exact hs, reads1_one ?_ rfl⟩
  have := Rd.str (w := w) (O := fun _ => False) s.data.toList
  simpa using this
def listok {α : Type} (good : α → Prop) (l : List α) : Prop := l.length ≤ maxLen ∧ ∀ y ∈ l, good y

theorem dec_slice {fuel T E sz : Nat} {α : Type} {e : α → List PV} {good : α → Prop} (h : P.underlying T = some (.slice E)) (hsz : P.cellsOf E = sz) (hz : Nat.blt 0 sz = true) (hlen : ∀ y, (e y).length = sz) (hE : ∀ n, n < fuel → DecAt enc P w n E e good) :
    DecAt enc P w fuel T (eL sz e) (listok good) := fun cs x hx => by
  have hz' : 0 < sz := by simpa [Nat.blt_eq] using hz
  rcases DataW.trod_slice h hx with ⟨rfl, _⟩ | ⟨a, len, cap, elems, rest, n, hf, rfl, _, _, h1, h2, h3, h4, h5⟩
  · exact ⟨[], ⟨Nat.zero_le _, by simp⟩, reads1_one (.vs0 sz) rfl⟩
  · have el : ∀ i, i < len → ∃ y cs', good y ∧ w.cells? 0 (a.add (i * sz)) sz = some cs' ∧ Reads1 w (fun _ => False) cs' (e y) := by
      intro i hi
      have h6 := h4 i hi
      rw [hsz] at h6
      obtain ⟨ei, hei⟩ : ∃ ei, elems[i]? = some ei := ⟨elems[i]'(by omega), List.getElem?_eq_getElem (by omega)⟩
      rw [hei] at h6
      obtain ⟨cs', h7, h8⟩ := Option.bind_eq_some_iff.1 h6
      obtain ⟨y, h9, h10⟩ := hE n (by omega) cs' _ h8
      exact ⟨y, cs', h9, h7, h10⟩
    rcases Nat.eq_zero_or_pos len with h0 | h0
    · subst h0
      exact ⟨[], ⟨Nat.zero_le _, by simp⟩, reads1_one (.vsz sz (some a) cap (fun e => by cases e) h2) rfl⟩
    · obtain ⟨f, hfs⟩ : ∃ f : Nat → α, ∀ i, i < len → ∃ cs', good (f i) ∧ w.cells? 0 (a.add (i * sz)) sz = some cs' ∧ Reads1 w (fun _ => False) cs' (e (f i)) := by
        obtain ⟨y0, _⟩ := el 0 h0
        refine ⟨fun i => if hi : i < len then (el i hi).choose else y0, fun i hi => ?_⟩
        simp only [dif_pos hi]
        exact (el i hi).choose_spec
      have hsp : a.spot = none := by
        obtain ⟨cs', _, hc, _⟩ := hfs 0 h0
        obtain ⟨_, hl, hcell⟩ := World.cells?_some hc
        have := hcell 0 hz'
        obtain ⟨v, hv⟩ : ∃ v, cs'[0]? = some v := ⟨cs'[0]'(by omega), List.getElem?_eq_getElem (by omega)⟩
        rw [hv] at this
        simpa [Addr.add] using World.cell?_spot this
      obtain ⟨b, off, sp⟩ := a
      simp only at hsp; subst hsp
      refine ⟨(List.range len).map f, ⟨by simp; omega, fun y hy => ?_⟩, reads1_one ?_ rfl⟩
      · obtain ⟨i, hi, rfl⟩ := List.mem_map.1 hy
        obtain ⟨_, hg, _⟩ := hfs i (by simpa using hi)
        exact hg
      · have hL : (List.map e ((List.range len).map f)).length = len := by simp
        have cellv : ∀ k, k < len * sz → ∃ v, w.cell? ⟨b, off + k, none⟩ = some v ∧ ∀ p, (e (f (k / sz)))[k % sz]? = some p → Rd w (fun _ => False) p v := by
          intro k hk
          have hq : k / sz < len := Nat.div_lt_of_lt_mul (by rw [Nat.mul_comm]; exact hk)
          have hm : k % sz < sz := Nat.mod_lt _ hz'
          obtain ⟨cs', _, hc, hr⟩ := hfs (k / sz) hq
          obtain ⟨_, hl, hcell⟩ := World.cells?_some hc
          have h6 := hcell (k % sz) hm
          have hv : cs'[k % sz]? = some (cs'[k % sz]'(by omega)) := List.getElem?_eq_getElem (by omega)
          refine ⟨cs'[k % sz]'(by omega), ?_, fun p hp => hr.2.2 _ p _ hp hv⟩
          rw [hv] at h6
          have e1 : off + k / sz * sz + k % sz = off + k := by
            have := Nat.div_add_mod k sz
            rw [Nat.mul_comm] at this
            omega
          simp only [Addr.add_lit] at h6
          rw [e1] at h6
          exact h6
        have hus : ∃ us : Nat → Value, ∀ k, k < len * sz → w.cell? ⟨b, off + k, none⟩ = some (us k) ∧ ∀ p, (e (f (k / sz)))[k % sz]? = some p → Rd w (fun _ => False) p (us k) := by
          refine ⟨fun k => if hk : k < len * sz then (cellv k hk).choose else undef, fun k hk => ?_⟩
          simp only [dif_pos hk]
          exact (cellv k hk).choose_spec
        obtain ⟨us, hus⟩ := hus
        have hb : b < w.heap.size := by
          have h6 := (hus 0 (Nat.mul_pos h0 hz')).1
          rcases Nat.lt_or_ge b w.heap.size with h7 | h7
          · exact h7
          · simp [World.cell?, Array.getElem?_eq_none h7] at h6
        have := Rd.vs (w := w) (O := fun _ => False) sz (List.map e ((List.range len).map f)) b off cap us (fun h => h) hb (by rw [hL]; omega) h2 (fun row hr => ?_) (fun row hr c hc => ?_) (fun k hk => ?_) (fun i j row c hi hj => ?_)
        · rw [hL] at this; exact this
        · obtain ⟨y, _, rfl⟩ := List.mem_map.1 hr
          exact hlen y
        · obtain ⟨y, hy, rfl⟩ := List.mem_map.1 hr
          obtain ⟨i, hi, rfl⟩ := List.mem_map.1 hy
          obtain ⟨cs', _, _, hr⟩ := hfs i (by simpa using hi)
          exact hr.2.1 c hc
        · rw [hL] at hk
          exact (hus k hk).1
        · have hi' : i < len := by have := (List.getElem?_eq_some_iff.1 hi).1; rw [hL] at this; exact this
          simp [hi'] at hi
          subst hi
          have hj' : j < sz := by have := (List.getElem?_eq_some_iff.1 hj).1; rw [hlen] at this; exact this
          have h6 := (hus (i * sz + j) (index_lt hi' hj')).2 c
          have e1 : (i * sz + j) / sz = i := by rw [Nat.mul_comm, Nat.mul_add_div hz', Nat.div_eq_of_lt hj', Nat.add_zero]
          have e2 : (i * sz + j) % sz = j := by rw [Nat.mul_comm, Nat.mul_add_mod, Nat.mod_eq_of_lt hj']
          rw [e1, e2] at h6
          exact h6 hj

/-! Structs, part by part. -/
def partsB (P : Program) (T : TypeId) (l : List (TypeId × Nat × Nat)) (n : Nat) : Bool :=
  match P.underlying T with
  | some (.struct fs) => (fs.toList.map (fun f => (f.type, f.offset, P.cellsOf f.type)) == l) && P.cellsOf T == n
  | _ => false
theorem dec_parts {fuel T n : Nat} {l : List (TypeId × Nat × Nat)} {cs : List Value} {x : DataW H × List MemPlace} (h : partsB P T l n = true) (hx : DataW.trod enc P w 0 (fun _ => true) true fuel T cs = some x) :
    ∃ m, m < fuel ∧ cs.length = n ∧ ∀ (i t off sz : Nat), l[i]? = some (t, off, sz) → ∃ y, DataW.trod enc P w 0 (fun _ => true) true m t ((cs.drop off).take sz) = some y := by
  unfold partsB at h
  split at h
  · rename_i fs hu
    simp only [Bool.and_eq_true, beq_iff_eq] at h
    obtain ⟨rfl, rfl⟩ := h
    obtain ⟨xs, m, hf, _, hl, hxs, hp⟩ := DataW.trod_struct hu hx
    refine ⟨m, by omega, hl, fun i t off sz hi => ?_⟩
    rw [List.getElem?_map, Option.map_eq_some_iff] at hi
    obtain ⟨f, hfi, he⟩ := hi
    injection he with e1 e2; injection e2 with e2 e3
    subst e1; subst e2; subst e3
    have hfi' : fs[i]? = some f := by simpa using hfi
    have hlt : i < xs.length := by rw [hxs]; exact (Array.getElem?_eq_some_iff.1 hfi').1
    exact ⟨xs[i], by rw [hp i f hfi']; exact List.getElem?_eq_getElem hlt⟩
  · cases h
theorem reads_nil {cs : List Value} {off : Nat} (h : cs.length = off) : Reads1 w (fun _ => False) (cs.drop off) [] := by
  rw [List.drop_eq_nil_of_le (by omega)]
  exact ⟨rfl, by simp, fun j p u hp => by simp at hp⟩
theorem reads_cons {cs : List Value} {off sz : Nat} {p q : List PV} (h1 : Reads1 w (fun _ => False) ((cs.drop off).take sz) p) (hp : p.length = sz) (h2 : Reads1 w (fun _ => False) (cs.drop (off + sz)) q) : Reads1 w (fun _ => False) (cs.drop off) (p ++ q) := by
  have e : cs.drop off = (cs.drop off).take sz ++ cs.drop (off + sz) := by
    rw [← List.drop_drop, List.take_append_drop]
  rw [e]
  have hl : ((cs.drop off).take sz).length = sz := by rw [h1.1, hp]
  refine ⟨by rw [List.length_append, List.length_append, h1.1, h2.1], fun x hx => ?_, fun j x u hx hu => ?_⟩
  · rcases List.mem_append.1 hx with h | h
    · exact h1.2.1 x h
    · exact h2.2.1 x h
  · rw [List.getElem?_append] at hx hu
    rw [hl] at hu; rw [hp] at hx
    split at hx
    · rename_i hj; rw [if_pos hj] at hu; exact h1.2.2 j x u hx hu
    · rename_i hj; rw [if_neg hj] at hu; exact h2.2.2 _ x u hx hu

def arrB (P : Program) (T : TypeId) (n E sz : Nat) : Bool :=
  match P.underlying T with
  | some (.array m e) => (m == n && e == E) && (P.cellsOf E == sz && P.cellsOf T == n * sz)
  | _ => false
theorem arr_parts {fuel T n E sz : Nat} {cs : List Value} {x : DataW H × List MemPlace} (h : arrB P T n E sz = true) (hx : DataW.trod enc P w 0 (fun _ => true) true fuel T cs = some x) :
    ∃ m, m < fuel ∧ cs.length = n * sz ∧ ∀ i, i < n → ∃ y, DataW.trod enc P w 0 (fun _ => true) true m E ((cs.drop (i * sz)).take sz) = some y := by
  unfold arrB at h
  split at h
  · rename_i m e hu
    simp only [Bool.and_eq_true, beq_iff_eq] at h
    obtain ⟨⟨rfl, rfl⟩, rfl, h4⟩ := h
    obtain ⟨xs, m', hf, _, hl, hxs, hp⟩ := DataW.trod_array hu hx
    refine ⟨m', by omega, by rw [hl, h4], fun i hi => ?_⟩
    exact ⟨xs[i], by rw [hp i hi]; exact List.getElem?_eq_getElem (by omega)⟩
  · cases h
theorem dec_arr4 {fuel T E sz : Nat} {α : Type} {e : α → List PV} {good : α → Prop} (h : arrB P T 4 E sz = true) (hlen : ∀ y, (e y).length = sz) (hE : ∀ n, n < fuel → DecAt enc P w n E e good) :
    DecAt enc P w fuel T (eA4 e) (fun x => good x.a0 ∧ good x.a1 ∧ good x.a2 ∧ good x.a3) := fun cs x hx => by
  obtain ⟨m, hm, hl, hp⟩ := arr_parts h hx
  obtain ⟨_, q0⟩ := hp 0 (by omega)
  obtain ⟨_, q1⟩ := hp 1 (by omega)
  obtain ⟨_, q2⟩ := hp 2 (by omega)
  obtain ⟨_, q3⟩ := hp 3 (by omega)
  obtain ⟨y0, g0, r0⟩ := hE m hm _ _ q0
  obtain ⟨y1, g1, r1⟩ := hE m hm _ _ q1
  obtain ⟨y2, g2, r2⟩ := hE m hm _ _ q2
  obtain ⟨y3, g3, r3⟩ := hE m hm _ _ q3
  refine ⟨⟨y0, y1, y2, y3⟩, ⟨g0, g1, g2, g3⟩, ?_⟩
  have e0 : cs.drop 0 = cs := List.drop_zero
  rw [← e0]
  have := reads_cons (off := 0) (by simpa using r0) (hlen y0) (reads_cons (by simpa using r1) (hlen y1) (reads_cons (by rw [show 0 + sz + sz = 2 * sz by omega]; exact r2) (hlen y2) (reads_cons (by rw [show 0 + sz + sz + sz = 3 * sz by omega]; exact r3) (hlen y3) (reads_nil (by omega)))))
  simpa using this

/-- An argument. -/
theorem dec_arg {T : TypeId} {v : Value} {d : DataW H} {ps : List MemPlace} {α : Type} {e : α → List PV} {good : α → Prop} (hT : ∀ n, DecAt enc P w n T e good) (h : DataW.Trod enc P w 0 (fun _ => true) true T v d ps) : ∃ y, good y ∧ Reads1 w (fun _ => False) v.cells.toList (e y) := by
  obtain ⟨fuel, hf⟩ := h
  exact hT fuel _ _ hf
end
end Go.Abs
namespace Go.Abs
theorem reads0 {w : World} {cs : List Value} {p : List PV} (h : Reads1 w (fun _ => False) (cs.drop 0) p) : Reads1 w (fun _ => False) cs p := by simpa using h
end Go.Abs
namespace Go.Abs
open Go.ChangeShapes Go.WideShapes Go.ChangeAt Go.RowKit
section
variable {H : Type} {enc : TypeId × Value → H} {P : Program} {w : World}
theorem dec_arr2 {fuel T E sz : Nat} {α : Type} {e : α → List PV} {good : α → Prop} (h : arrB P T 2 E sz = true) (hlen : ∀ y, (e y).length = sz) (hE : ∀ n, n < fuel → DecAt enc P w n E e good) :
    DecAt enc P w fuel T (eA2 e) (fun x => good x.a0 ∧ good x.a1) := fun cs x hx => by
  obtain ⟨m, hm, hl, hp⟩ := arr_parts h hx
  obtain ⟨_, q0⟩ := hp 0 (by omega)
  obtain ⟨_, q1⟩ := hp 1 (by omega)
  obtain ⟨y0, g0, r0⟩ := hE m hm _ _ q0
  obtain ⟨y1, g1, r1⟩ := hE m hm _ _ q1
  refine ⟨⟨y0, y1⟩, ⟨g0, g1⟩, ?_⟩
  have e0 : cs.drop 0 = cs := List.drop_zero
  rw [← e0]
  have := reads_cons (off := 0) (by simpa using r0) (hlen y0) (reads_cons (by rw [show 0 + sz = 1 * sz by omega]; exact r1) (hlen y1) (reads_nil (by omega)))
  simpa using this
theorem dec_arr3 {fuel T E sz : Nat} {α : Type} {e : α → List PV} {good : α → Prop} (h : arrB P T 3 E sz = true) (hlen : ∀ y, (e y).length = sz) (hE : ∀ n, n < fuel → DecAt enc P w n E e good) :
    DecAt enc P w fuel T (eA3 e) (fun x => good x.a0 ∧ good x.a1 ∧ good x.a2) := fun cs x hx => by
  obtain ⟨m, hm, hl, hp⟩ := arr_parts h hx
  obtain ⟨_, q0⟩ := hp 0 (by omega)
  obtain ⟨_, q1⟩ := hp 1 (by omega)
  obtain ⟨_, q2⟩ := hp 2 (by omega)
  obtain ⟨y0, g0, r0⟩ := hE m hm _ _ q0
  obtain ⟨y1, g1, r1⟩ := hE m hm _ _ q1
  obtain ⟨y2, g2, r2⟩ := hE m hm _ _ q2
  refine ⟨⟨y0, y1, y2⟩, ⟨g0, g1, g2⟩, ?_⟩
  have e0 : cs.drop 0 = cs := List.drop_zero
  rw [← e0]
  have := reads_cons (off := 0) (by simpa using r0) (hlen y0) (reads_cons (by rw [show 0 + sz = 1 * sz by omega]; exact r1) (hlen y1) (reads_cons (by rw [show 0 + sz + sz = 2 * sz by omega]; exact r2) (hlen y2) (reads_nil (by omega))))
  simpa using this
end
end Go.Abs
