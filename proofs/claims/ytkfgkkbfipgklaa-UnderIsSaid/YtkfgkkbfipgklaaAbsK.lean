/- The abstract layer that the proof stands on: no condition. -/
import Derived.Test.YtkfgkkbfipgklaaAbsJ
namespace Go.Abs
open Go.RowKit

/-- A piece of a list: from `l` (incl.) to `h` (excl.). -/
def cutL {α : Type} (xs : List α) (l h : Int) : Option (List α) := if 0 ≤ l ∧ l ≤ h ∧ h ≤ xs.length then some ((xs.take h.toNat).drop l.toNat) else none
theorem cutL_spec {α : Type} {xs r : List α} {l h : Int} (e : cutL xs l h = some r) : 0 ≤ l ∧ l ≤ h ∧ h ≤ xs.length ∧ r = (xs.take h.toNat).drop l.toNat := by
  unfold cutL at e
  split at e
  · rename_i hh; cases e; exact ⟨hh.1, hh.2.1, hh.2.2, rfl⟩
  · cases e
theorem cutL_map {α β : Type} (f : α → β) {xs r : List α} {l h : Int} (e : cutL xs l h = some r) : cutL (xs.map f) l h = some (r.map f) := by
  obtain ⟨h1, h2, h3, rfl⟩ := cutL_spec e
  unfold cutL
  rw [if_pos ⟨h1, h2, by simpa using h3⟩, List.map_drop, List.map_take]

def evo (s : St) : Option Operand → Option (Option Int)
  | none => some none
  | some x => match ev s x with
    | some (.pv (.int _ n)) => some (some n)
    | _ => none

section
variable {ro : Option Nat} {P : Program} {c : Cx} {s s' : St} {o : Oper} {d : Option Nat}

theorem run_sliceBound {w : World} {k : IntKind} {n : Int} {y : Nat} {code : BoundsCode} (h0 : 0 ≤ n) (h1 : n ≤ y) : (Instr.sliceBound (.int k n) y code).run P w = .ok n.toNat w := by
  simp [Instr.sliceBound, asIntOf, h0, h1]

theorem evo_ok {O : Nat → Prop} {θ : Nat → Option Value} {a : Act} {w : World} (hs : SimAt c s O θ a w) {x : Option Operand} {n : Option Int} (h : evo s x = some n) :
    (x = none ∧ n = none) ∨ ∃ y k m, x = some y ∧ n = some m ∧ a.eval y = .int k m := by
  cases x with
  | none => simp [evo] at h; exact .inl ⟨rfl, h.symm⟩
  | some y =>
    simp only [evo] at h
    split at h
    · rename_i k m hy
      cases h
      exact .inr ⟨y, k, m, rfl, rfl, ev_int hs hy⟩
    · cases h

theorem op_slice_str {T : TypeId} {x : Operand} {lo hi : Option Operand} {l r : List UInt8} {nl nh : Option Int} (ho : o.op = .slice T x lo hi none) (hx : ev s x = some (.pv (.str l))) (hlo : evo s lo = some nl) (hhi : evo s hi = some nh) (ht : P.underlying T = some .string)
    (hr : cutL l (nl.getD 0) (nh.getD l.length) = some r) (hd : o.dst = d) (hn : dOk s d = true) : OpOk ro P c o s (s.put d (some (.pv (.str r)))) :=
  opOk_value hd hn (by rw [ho]; intro k h; cases h) fun a w O θ hs => by
    obtain ⟨h1, h2, h3, rfl⟩ := cutL_spec hr
    have hv := ev_str hs hx
    have hsz : (⟨l.toArray⟩ : ByteArray).size = l.length := by simp [ByteArray.size]
    refine ⟨.string ((⟨l.toArray⟩ : ByteArray).extract (nl.getD 0).toNat (nh.getD l.length).toNat), ?_, .pv _ _ ?_⟩
    · rcases evo_ok hs hlo with ⟨rfl, rfl⟩ | ⟨yl, kl, ml, rfl, rfl, e1⟩ <;> rcases evo_ok hs hhi with ⟨rfl, rfl⟩ | ⟨yh, kh, mh, rfl, rfl, e2⟩
      · have hex : (⟨l.toArray⟩ : ByteArray) = (⟨l.toArray⟩ : ByteArray).extract 0 l.length := by apply ByteArray.ext; simp [ByteArray.data_extract]
        simp [execOp, ho, hv, Instr.sliceAt, run_underlying ht, Instr.slice, Instr.sliceBounds, hsz]
        exact hex
      · simp only [Option.getD_some, Option.getD_none] at h1 h2 h3 ⊢
        have b1 := run_sliceBound (P := P) (w := w) (k := kh) (code := .sliceAlen) (show 0 ≤ mh by omega) h3
        simp [execOp, ho, hv, Instr.sliceAt, run_underlying ht, Instr.slice, Instr.sliceBounds, hsz, e2, b1]
      · simp only [Option.getD_some, Option.getD_none] at h1 h2 h3 ⊢
        have b1 := run_sliceBound (P := P) (w := w) (k := kl) (code := .sliceB) h1 h2
        simp [execOp, ho, hv, Instr.sliceAt, run_underlying ht, Instr.slice, Instr.sliceBounds, hsz, e1, b1]
      · simp only [Option.getD_some] at h1 h2 h3 ⊢
        have b1 := run_sliceBound (P := P) (w := w) (k := kh) (code := .sliceAlen) (show 0 ≤ mh by omega) h3
        have b2 := run_sliceBound (P := P) (w := w) (k := kl) (y := mh.toNat) (code := .sliceB) h1 (by omega)
        simp [execOp, ho, hv, Instr.sliceAt, run_underlying ht, Instr.slice, Instr.sliceBounds, hsz, e1, e2, b1, b2]
    · have : ((⟨l.toArray⟩ : ByteArray).extract (nl.getD 0).toNat (nh.getD l.length).toNat) = ⟨((l.take (nh.getD l.length).toNat).drop (nl.getD 0).toNat).toArray⟩ := by
        apply ByteArray.ext
        simp [ByteArray.data_extract, List.drop_take]
      rw [this]; exact .str _

theorem op_slice_vs {T e sz : Nat} {x : Operand} {lo hi mx : Option Operand} {rows r : List (List PV)} {nl nh nm : Option Int} (ho : o.op = .slice T x lo hi mx) (hx : ev s x = some (.pv (.vs sz rows))) (hlo : evo s lo = some nl) (hhi : evo s hi = some nh) (hmx : evo s mx = some nm) (hm : nm = none ∨ nm = nh)
    (ht : sliceB P T e sz = true) (hr : cutL rows (nl.getD 0) (nh.getD rows.length) = some r) (hd : o.dst = d) (hn : dOk s d = true) : OpOk ro P c o s (s.put d (some (.pv (.vs sz r)))) :=
  opOk_value hd hn (by rw [ho]; intro k h; cases h) fun a w O θ hs => by
    obtain ⟨h1, h2, h3, rfl⟩ := cutL_spec hr
    obtain ⟨i, t1, t2, t3⟩ := sliceB_spec ht
    have hv := ev_pv hs hx
    obtain ⟨ad, cap, he, _⟩ := rd_vs_len hv
    have hcap : rows.length ≤ cap := by
      rcases rd_vs hv with ⟨_, _, h, rfl, _, _⟩ | ⟨b, off, cap', us, h, _, _, h6, _⟩
      · simp
      · rw [he] at h; injection h with _ _ h; omega
    -- the run
    have run : ∃ m : Nat, (m = (nh.getD rows.length).toNat ∨ m = cap) ∧ (execOp a.eval o).run P w = .ok (.value (.slice (if m = (nl.getD 0).toNat then ad else ad.map (·.add ((nl.getD 0).toNat * sz))) ((nh.getD rows.length).toNat - (nl.getD 0).toNat) (m - (nl.getD 0).toNat))) w := by
      have hund : ∀ n e, P.underlying T ≠ some (.array n e) := fun n e h => by rw [t1] at h; cases h
      rcases evo_ok hs hlo with ⟨rfl, rfl⟩ | ⟨yl, kl, ml, rfl, rfl, e1⟩ <;> rcases evo_ok hs hhi with ⟨rfl, rfl⟩ | ⟨yh, kh, mh, rfl, rfl, e2⟩ <;> rcases evo_ok hs hmx with ⟨rfl, rfl⟩ | ⟨ym, km, mm, rfl, rfl, e3⟩
      · exact ⟨cap, .inr rfl, by simp [execOp, ho, he, Instr.sliceAt, run_underlying t1, Instr.slice, Instr.sliceBounds, sizeOf, typeInfo, t2, t3]⟩
      · simp at hm
      · simp only [Option.getD_some, Option.getD_none] at h1 h2 h3 ⊢
        have b1 := run_sliceBound (P := P) (w := w) (k := kh) (y := cap) (code := .sliceAcap) (show 0 ≤ mh by omega) (by omega)
        exact ⟨cap, .inr rfl, by simp [execOp, ho, he, Instr.sliceAt, run_underlying t1, Instr.slice, Instr.sliceBounds, sizeOf, typeInfo, t2, t3, e2, b1]⟩
      · simp only [Option.getD_some, Option.getD_none, reduceCtorEq, false_or, Option.some.injEq] at h1 h2 h3 hm ⊢
        subst hm
        have b0 := run_sliceBound (P := P) (w := w) (k := km) (y := cap) (code := .slice3Acap) (show 0 ≤ mm by omega) (by omega)
        have b1 := run_sliceBound (P := P) (w := w) (k := kh) (y := mm.toNat) (code := .slice3B) (show 0 ≤ mm by omega) (by omega)
        exact ⟨mm.toNat, .inl rfl, by simp [execOp, ho, he, Instr.sliceAt, run_underlying t1, Instr.slice, Instr.sliceBounds, sizeOf, typeInfo, t2, t3, e2, e3, b0, b1]⟩
      · simp only [Option.getD_some, Option.getD_none] at h1 h2 h3 ⊢
        have b1 := run_sliceBound (P := P) (w := w) (k := kl) (y := rows.length) (code := .sliceB) h1 h2
        exact ⟨cap, .inr rfl, by simp [execOp, ho, he, Instr.sliceAt, run_underlying t1, Instr.slice, Instr.sliceBounds, sizeOf, typeInfo, t2, t3, e1, b1]⟩
      · simp at hm
      · simp only [Option.getD_some] at h1 h2 h3 ⊢
        have b1 := run_sliceBound (P := P) (w := w) (k := kh) (y := cap) (code := .sliceAcap) (show 0 ≤ mh by omega) (by omega)
        have b2 := run_sliceBound (P := P) (w := w) (k := kl) (y := mh.toNat) (code := .sliceB) h1 (by omega)
        exact ⟨cap, .inr rfl, by simp [execOp, ho, he, Instr.sliceAt, run_underlying t1, Instr.slice, Instr.sliceBounds, sizeOf, typeInfo, t2, t3, e1, e2, b1, b2]⟩
      · simp only [Option.getD_some, reduceCtorEq, false_or, Option.some.injEq] at h1 h2 h3 hm ⊢
        subst hm
        have b0 := run_sliceBound (P := P) (w := w) (k := km) (y := cap) (code := .slice3Acap) (show 0 ≤ mm by omega) (by omega)
        have b1 := run_sliceBound (P := P) (w := w) (k := kh) (y := mm.toNat) (code := .slice3B) (show 0 ≤ mm by omega) (by omega)
        have b2 := run_sliceBound (P := P) (w := w) (k := kl) (y := mm.toNat) (code := .slice3C) h1 (by omega)
        exact ⟨mm.toNat, .inl rfl, by simp [execOp, ho, he, Instr.sliceAt, run_underlying t1, Instr.slice, Instr.sliceBounds, sizeOf, typeInfo, t2, t3, e1, e2, e3, b0, b1, b2]⟩
    obtain ⟨m, hm', hrun⟩ := run
    refine ⟨_, hrun, .pv _ _ ?_⟩
    rw [he] at hv
    generalize hL : (nl.getD 0).toNat = L at *
    generalize hH : (nh.getD rows.length).toNat = H at *
    have hLH : L ≤ H := by omega
    have hHr : H ≤ rows.length := by omega
    have hlen : ((rows.take H).drop L).length = H - L := by simp; omega
    rcases rd_vs hv with ⟨ad0, cap0, h, hrr, hz0, hz1⟩ | ⟨b, off, cap', us, h, q1, q2, q3, q4, q5, q6, q7, q8⟩
    · subst hrr
      injection h with h1' h2' h3'
      subst h1'; subst h3'
      simp at hHr
      subst hHr
      have : L = 0 := by omega
      subst this
      simp only [List.take_nil, List.drop_nil, Nat.sub_zero]
      by_cases hm0 : m = 0
      · rw [if_pos hm0, hm0]
        exact .vsz _ _ _ (fun _ => rfl) (Nat.zero_le _)
      · rw [if_neg hm0]
        have hmc : m = cap := by rcases hm' with h | h; exact absurd h hm0; exact h
        exact .vsz _ _ _ (fun e => by rw [hmc]; exact hz0 (by simpa using e)) (by rw [hmc]; exact hz1)
    · injection h with h1' h2' h3'
      subst h1'; subst h3'
      have hmH : H ≤ m := by rcases hm' with h | h <;> omega
      have hgo : Rd w O (.vs sz ((rows.take H).drop L)) (.slice (some ⟨b, off + (if m = L then 0 else L * sz), none⟩) (H - L) (m - L)) := by
        rw [← hlen]
        refine .vs sz _ b _ _ (fun k => us (L * sz + k)) q1 q2 (by rw [hlen]; omega) (by rcases hm' with h | h <;> omega) (fun row hr => q5 row (List.mem_of_mem_take (List.mem_of_mem_drop hr))) (fun row hr => q6 row (List.mem_of_mem_take (List.mem_of_mem_drop hr))) (fun k hk => ?_) (fun i j row x hi hj => ?_)
        · rw [hlen] at hk
          have hml : m ≠ L := fun e => by
            have : H - L = 0 := by omega
            rw [this] at hk; simp at hk
          rw [if_neg hml, Nat.add_assoc]
          refine q7 _ ?_
          have : (L + (H - L)) * sz ≤ rows.length * sz := Nat.mul_le_mul_right _ (by omega)
          rw [Nat.add_mul] at this
          omega
        · rw [List.getElem?_drop, List.getElem?_take] at hi
          split at hi
          · have := q8 (L + i) j row x hi hj
            rw [Nat.add_mul, Nat.add_assoc] at this
            exact this
          · cases hi
      by_cases hml : m = L
      · rw [if_pos hml] at hgo ⊢
        simpa using hgo
      · rw [if_neg hml] at hgo ⊢
        simpa [Addr.add_lit] using hgo

theorem op_index_str {T : TypeId} {x y : Operand} {k : IntKind} {n : Int} {l : List UInt8} {b : UInt8} (ho : o.op = .index T x y) (hx : ev s x = some (.pv (.str l))) (hy : ev s y = some (.pv (.int k n))) (hb : idx l n = some b) (ht : P.underlying T = some .string) (hd : o.dst = d) (hn : dOk s d = true) :
    OpOk ro P c o s (s.put d (some (.pv (.int .u8 b.toNat)))) :=
  opOk_value hd hn (by rw [ho]; intro k h; cases h) fun a w O θ hs => by
    obtain ⟨h0, h1, h2⟩ := idx_spec hb
    have hl : n.toNat < l.length := by omega
    refine ⟨.int .u8 b.toNat, ?_, .pv _ _ (.int _ _)⟩
    have hget : (⟨l.toArray⟩ : ByteArray)[n.toNat]? = some b := by
      rw [getElem?_pos (⟨l.toArray⟩ : ByteArray) n.toNat (by simpa [ByteArray.size] using hl)]
      obtain ⟨_, h3⟩ := List.getElem?_eq_some_iff.1 h1
      exact congrArg some h3
    simp [execOp, ho, ev_str hs hx, ev_int hs hy, Instr.index, asIntOf, run_underlying ht, h0, hget]

theorem op_convInt {T T' : TypeId} {x : Operand} {k k' : IntKind} {n : Int} {td : TypeDesc} (ho : o.op = .convert T T' x) (hx : ev s x = some (.pv (.int k n))) (ht0 : P.underlying T = some td) (ht : P.underlying T' = some (.int k')) (hd : o.dst = d) (hn : dOk s d = true) :
    OpOk ro P c o s (s.put d (some (.pv (.int k' (k'.wrap n))))) :=
  opOk_value hd hn (by rw [ho]; intro k h; cases h) fun a w O θ hs => ⟨_, by simp [execOp, ho, ev_int hs hx, convert, run_underlying ht0, run_underlying ht, Conv.intToInt], .pv _ _ (.int _ _)⟩

theorem op_field_agg1 {T f off : Nat} {ft : TypeId} {x : Operand} {ps : List PV} {p : PV} {fs : Array Field} {fld : Field} (ho : o.op = .field T x f) (hx : ev s x = some (.pv (.agg ps))) (hu : P.underlying T = some (.struct fs)) (hf : fs[f]? = some fld) (hft : fld.type = ft) (hoff : fld.offset = off) (ht : oneB P ft = true) (hp : ps[off]? = some p) (hd : o.dst = d) (hn : dOk s d = true) :
    OpOk ro P c o s (s.put d (some (.pv p))) :=
  opOk_value hd hn (by rw [ho]; intro k h; cases h) fun a w O θ hs => by
    obtain ⟨us, he, h1, h2, h3⟩ := rd_agg (ev_pv hs hx)
    obtain ⟨t1, t2, _⟩ := oneB_spec ht
    have hlt : off < us.size := by rw [h1]; exact (List.getElem?_eq_some_iff.1 hp).1
    have hu' : us[off]? = some us[off] := by simp [hlt]
    exact ⟨us[off], by simp [execOp, ho, he, Instr.field, run_underlying hu, hf, hft, hoff, asAgg, part, t1, hu'], .pv _ _ (h3 off p _ hp hu')⟩

theorem op_field_agg {T f off n : Nat} {ft : TypeId} {x : Operand} {ps qs : List PV} {fs : Array Field} {fld : Field} (ho : o.op = .field T x f) (hx : ev s x = some (.pv (.agg ps))) (hu : P.underlying T = some (.struct fs)) (hf : fs[f]? = some fld) (hft : fld.type = ft) (hoff : fld.offset = off) (ht : aggB P ft n = true) (hp : (ps.drop off).take n = qs) (hl : qs.length = n) (hd : o.dst = d) (hn : dOk s d = true) :
    OpOk ro P c o s (s.put d (some (.pv (.agg qs)))) :=
  opOk_value hd hn (by rw [ho]; intro k h; cases h) fun a w O θ hs => by
    obtain ⟨us, he, h1, h2, h3⟩ := rd_agg (ev_pv hs hx)
    obtain ⟨t1, t2, _⟩ := aggB_spec ht
    subst hp
    have hr : Reads1 w O us.toList ps := ⟨by simpa using h1, h2, fun j p u hp hu => h3 j p u hp (by simpa using hu)⟩
    have e : us.extract off (off + n) = ((us.toList.drop off).take n).toArray := by
      apply Array.ext'; simp
    exact ⟨.agg ((us.toList.drop off).take n).toArray, by simp [execOp, ho, he, Instr.field, run_underlying hu, hf, hft, hoff, asAgg, part, t1, t2, e], .pv _ _ (rd_of_reads1 (hr.cut off n))⟩

theorem op_min2 {T : Array TypeId} {x y : Operand} {k k' : IntKind} {m n : Int} (ho : o.op = .call { callee := .builtin .min, args := #[x, y], argTypes := T }) (hx : ev s x = some (.pv (.int k m))) (hy : ev s y = some (.pv (.int k' n))) (hd : o.dst = d) (hn : dOk s d = true) :
    OpOk ro P c o s (s.put d (some (.pv (.int k (if n < m then n else m))))) :=
  opOk_value hd hn (by rw [ho]; intro k h; cases h) fun a w O θ hs => ⟨_, by simp [execOp, ho, resolve, invoke, builtin, ev_int hs hx, ev_int hs hy, Builtin.min_, Builtin.min2], .pv _ _ (.int _ _)⟩
theorem op_max2 {T : Array TypeId} {x y : Operand} {k k' : IntKind} {m n : Int} (ho : o.op = .call { callee := .builtin .max, args := #[x, y], argTypes := T }) (hx : ev s x = some (.pv (.int k m))) (hy : ev s y = some (.pv (.int k' n))) (hd : o.dst = d) (hn : dOk s d = true) :
    OpOk ro P c o s (s.put d (some (.pv (.int k (if n > m then n else m))))) :=
  opOk_value hd hn (by rw [ho]; intro k h; cases h) fun a w O θ hs => ⟨_, by simp [execOp, ho, resolve, invoke, builtin, ev_int hs hx, ev_int hs hy, Builtin.max_, Builtin.max2], .pv _ _ (.int _ _)⟩

/-- What several operands are. -/
def evl (s : St) : List Operand → Option (List AV)
  | [] => some []
  | x :: l => match ev s x, evl s l with
    | some v, some vs => some (v :: vs)
    | _, _ => none
theorem evl_ok {O : Nat → Prop} {θ : Nat → Option Value} {a : Act} {w : World} (hs : SimAt c s O θ a w) : ∀ {l : List Operand} {xs : List AV}, evl s l = some xs → l.length = xs.length ∧ ∀ (i : Nat) (x : AV) (u : Value), xs[i]? = some x → (l.map a.eval)[i]? = some u → RdA w O θ x u
  | [], xs, h => by simp [evl] at h; subst h; simp
  | y :: l, xs, h => by
    simp only [evl] at h
    split at h
    · rename_i v vs hv hvs
      cases h
      obtain ⟨h1, h2⟩ := evl_ok hs hvs
      refine ⟨by simp [h1], fun i x u hx hu => ?_⟩
      cases i with
      | zero => simp at hx hu; subst hx; subst hu; exact ev_ok hs hv
      | succ i => simp at hx hu; exact h2 i x u hx (by simpa using hu)
    · cases h

theorem op_makeFunc {f : Nat} {caps : List Operand} {xs : List AV} (ho : o.op = .makeFunc (.func f) #[] caps.toArray) (hx : evl s caps = some xs) (hd : o.dst = d) (hn : dOk s d = true) : OpOk ro P c o s (s.put d (some (.fn f xs))) :=
  opOk_value hd hn (by rw [ho]; intro k h; cases h) fun a w O θ hs => by
    obtain ⟨h1, h2⟩ := evl_ok hs hx
    exact ⟨.func (.func f) #[] (caps.map a.eval).toArray, by simp [execOp, ho, Instr.makeFunc], .fn f xs _ (by simp [h1]) (fun i x u hx hu => h2 i x u hx (by simpa using hu))⟩
end
end Go.Abs
