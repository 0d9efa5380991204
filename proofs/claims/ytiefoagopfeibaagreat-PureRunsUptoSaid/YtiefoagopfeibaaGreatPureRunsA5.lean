/- The abstract layer that the proof stands on: no condition. -/
import Derived.Test.YtiefoagopfeibaaGreatPureRunsA4
import Derived.JoinedCond
/- The arguments' readings with their bulk; a law's second row. -/
namespace Go.Abs
variable {G : List (Nat × List PV)}
open Go.ChangeShapes Go.WideShapes Go.ChangeAt Go.RowKit
structure Bk (H : Type) where
 bk : DataW H → Nat
 al : List (DataW H) → Nat
 str : ∀ s, s.length + 1 ≤ bk (.lit (.string s))
 one : ∀ d, 1 ≤ bk d
 sl : ∀ e s, al e + 1 ≤ bk (.slice e s)
 ag : ∀ l, al l + 1 ≤ bk (.agg l)
 nil : al [] = 0
 cons : ∀ d l, al (d :: l) = bk d + al l
def lsum {α : Type} (u : α → Nat) : List α → Nat
 | [] => 0
 | x :: l => u x + lsum u l
section
variable {H : Type} (K : Bk H) (enc : TypeId × Value → H) (P : Program) (w : World)
def DecU (fuel : Nat) (T : TypeId) {α : Type} (e : α → List PV) (good : α → Prop) (u : α → Nat) : Prop :=
 ∀ (cs : List Value) (x : DataW H × List MemPlace), DataW.trod enc P w 0 (fun _ => true) true fuel T cs = some x → ∃ y, good y ∧ u y ≤ K.bk x.1 ∧ Reads1 w (fun _ => False) cs (e y)
variable {K enc P w}
theorem decU_bool {fuel T : Nat} (h : P.underlying T = some .bool) : DecU K enc P w fuel T eB (fun _ => True) (fun _ => 1) := fun cs x hx => by
 obtain ⟨y, h1, h2⟩ := dec_bool h cs x hx
 exact ⟨y, h1, K.one _, h2⟩
theorem decU_int {fuel T : Nat} (h : P.underlying T = some (.int .i64)) : DecU K enc P w fuel T eI i64ok (fun _ => 1) := fun cs x hx => by
 obtain ⟨y, h1, h2⟩ := dec_int h cs x hx
 exact ⟨y, h1, K.one _, h2⟩
theorem decU_str {fuel T : Nat} (h : P.underlying T = some .string) : DecU K enc P w fuel T eS strok (fun s => s.length + 1) := fun cs x hx => by
 obtain ⟨s, rfl, rfl, hs⟩ := DataW.trod_string h hx
 refine ⟨s.data.toList, by show s.data.toList.length ≤ maxLen; rw [Array.length_toList]; exact hs, K.str _, reads1_one ?_ rfl⟩
 have := Rd.str (w := w) (O := fun _ => False) s.data.toList
 simpa using this
theorem al_ge : ∀ (l : List (DataW H)) (ns : List Nat), ns.length = l.length → (∀ (i n : Nat) (d : DataW H), ns[i]? = some n → l[i]? = some d → n ≤ K.bk d) → lsum id ns ≤ K.al l
 | [], [], _, _ => by rw [K.nil]; exact Nat.le_refl _
 | d :: l, n :: ns, hl, h => by
  rw [K.cons]
  simp only [lsum, id]
  have h1 := h 0 n d rfl rfl
  have h2 := al_ge l ns (by simpa using hl) (fun i n d hn hd => h (i + 1) n d (by simpa using hn) (by simpa using hd))
  omega
 | [], _ :: _, hl, _ => by simp at hl
 | _ :: _, [], hl, _ => by simp at hl
theorem lsum_map {α β : Type} (u : β → Nat) (f : α → β) : ∀ l : List α, lsum u (l.map f) = lsum (fun x => u (f x)) l
 | [] => rfl
 | x :: l => by simp only [List.map_cons, lsum, lsum_map u f l]
theorem lsum_id {α : Type} (u : α → Nat) (l : List α) : lsum id (l.map u) = lsum u l := by rw [lsum_map]; rfl
theorem decU_slice {fuel T E sz : Nat} {α : Type} {e : α → List PV} {good : α → Prop} {u : α → Nat} (h : P.underlying T = some (.slice E)) (hsz : P.cellsOf E = sz) (hz : Nat.blt 0 sz = true) (hlen : ∀ y, (e y).length = sz) (hE : ∀ n, n < fuel → DecU K enc P w n E e good u) :
  DecU K enc P w fuel T (eL sz e) (listok good) (fun l => lsum u l + 1) := fun cs x hx => by
 -- the elements' own counts go along as a part of what is good
 have hz' : 0 < sz := by simpa [Nat.blt_eq] using hz
 rcases DataW.trod_slice h hx with ⟨rfl, rfl⟩ | ⟨a, len, cap, elems, rest, n, hf, rfl, rfl, _, h1, h2, h3, h4, h5⟩
 ·exact ⟨[], ⟨Nat.zero_le _, by simp⟩, K.one _, reads1_one (.vs0 sz) rfl⟩
 ·have el : ∀ i, i < len → ∃ y cs' ei, elems[i]? = some ei ∧ u y ≤ K.bk ei.1 ∧ good y ∧ w.cells? 0 (a.add (i * sz)) sz = some cs' ∧ Reads1 w (fun _ => False) cs' (e y) := by
   intro i hi
   have h6 := h4 i hi
   rw [hsz] at h6
   obtain ⟨ei, hei⟩ : ∃ ei, elems[i]? = some ei := ⟨elems[i]'(by omega), List.getElem?_eq_getElem (by omega)⟩
   rw [hei] at h6
   obtain ⟨cs', h7, h8⟩ := Option.bind_eq_some_iff.1 h6
   obtain ⟨y, h9, h10, h11⟩ := hE n (by omega) cs' _ h8
   exact ⟨y, cs', ei, hei, h10, h9, h7, h11⟩
  rcases Nat.eq_zero_or_pos len with h0 | h0
  ·subst h0
   exact ⟨[], ⟨Nat.zero_le _, by simp⟩, K.one _, reads1_one (.vsz sz (some a) cap (fun e => by cases e) h2) rfl⟩
  ·obtain ⟨f, hfs⟩ : ∃ f : Nat → α, ∀ i, i < len → ∃ cs' ei, elems[i]? = some ei ∧ u (f i) ≤ K.bk ei.1 ∧ good (f i) ∧ w.cells? 0 (a.add (i * sz)) sz = some cs' ∧ Reads1 w (fun _ => False) cs' (e (f i)) := by
    obtain ⟨y0, _⟩ := el 0 h0
    refine ⟨fun i => if hi : i < len then (el i hi).choose else y0, fun i hi => ?_⟩
    simp only [dif_pos hi]
    exact (el i hi).choose_spec
   -- the reading of the whole, by the rule without counts
   have hd : ∃ y, (y = (List.range len).map f) ∧ Reads1 w (fun _ => False) [.slice (some a) len cap] (eL sz e y) := by
    have hsp : a.spot = none := by
     obtain ⟨cs', _, _, _, _, hc, _⟩ := hfs 0 h0
     obtain ⟨_, hl, hcell⟩ := World.cells?_some hc
     have := hcell 0 hz'
     obtain ⟨v, hv⟩ : ∃ v, cs'[0]? = some v := ⟨cs'[0]'(by omega), List.getElem?_eq_getElem (by omega)⟩
     rw [hv] at this
     simpa [Addr.add] using World.cell?_spot this
    obtain ⟨b, off, sp⟩ := a
    simp only at hsp; subst hsp
    refine ⟨(List.range len).map f, rfl, reads1_one ?_ rfl⟩
    have hL : (List.map e ((List.range len).map f)).length = len := by simp
    have cellv : ∀ k, k < len * sz → ∃ v, w.cell? ⟨b, off + k, none⟩ = some v ∧ ∀ p, (e (f (k / sz)))[k % sz]? = some p → Rd w (fun _ => False) p v := by
     intro k hk
     have hq : k / sz < len := Nat.div_lt_of_lt_mul (by rw [Nat.mul_comm]; exact hk)
     have hm : k % sz < sz := Nat.mod_lt _ hz'
     obtain ⟨cs', _, _, _, _, hc, hr⟩ := hfs (k / sz) hq
     obtain ⟨_, hl, hcell⟩ := World.cells?_some hc
     have h6 := hcell (k % sz) hm
     have hv : cs'[k % sz]? = some (cs'[k % sz]'(by omega)) := List.getElem?_eq_getElem (by omega)
     refine ⟨cs'[k % sz]'(by omega), ?_, fun p hp => hr.2.2 _ p _ hp hv⟩
     rw [hv] at h6
     have e1 : off + k / sz * sz + k % sz = off + k := by
      have := Nat.div_add_mod k sz
      rw [Nat.mul_comm] at this
      omega
     simp only [Addr.add_lit] at h6
     rw [e1] at h6
     exact h6
    have hus : ∃ us : Nat → Value, ∀ k, k < len * sz → w.cell? ⟨b, off + k, none⟩ = some (us k) ∧ ∀ p, (e (f (k / sz)))[k % sz]? = some p → Rd w (fun _ => False) p (us k) := by
     refine ⟨fun k => if hk : k < len * sz then (cellv k hk).choose else undef, fun k hk => ?_⟩
     simp only [dif_pos hk]
     exact (cellv k hk).choose_spec
    obtain ⟨us, hus⟩ := hus
    have hb : b < w.heap.size := by
     have h6 := (hus 0 (Nat.mul_pos h0 hz')).1
     rcases Nat.lt_or_ge b w.heap.size with h7 | h7
     ·exact h7
     ·simp [World.cell?, Array.getElem?_eq_none h7] at h6
    have := Rd.vs (w := w) (O := fun _ => False) sz (List.map e ((List.range len).map f)) b off cap us (fun h => h) hb (by rw [hL]; omega) h2 (fun row hr => ?_) (fun row hr c hc => ?_) (fun k hk => ?_) (fun i j row c hi hj => ?_)
    ·rw [hL] at this; exact this
    ·obtain ⟨y, _, rfl⟩ := List.mem_map.1 hr
     exact hlen y
    ·obtain ⟨y, hy, rfl⟩ := List.mem_map.1 hr
     obtain ⟨i, hi, rfl⟩ := List.mem_map.1 hy
     obtain ⟨cs', _, _, _, _, _, hr⟩ := hfs i (by simpa using hi)
     exact hr.2.1 c hc
    ·rw [hL] at hk
     exact (hus k hk).1
    ·have hi' : i < len := by have := (List.getElem?_eq_some_iff.1 hi).1; rw [hL] at this; exact this
     simp [hi'] at hi
     subst hi
     have hj' : j < sz := by have := (List.getElem?_eq_some_iff.1 hj).1; rw [hlen] at this; exact this
     have h6 := (hus (i * sz + j) (index_lt hi' hj')).2 c
     have e1 : (i * sz + j) / sz = i := by rw [Nat.mul_comm, Nat.mul_add_div hz', Nat.div_eq_of_lt hj', Nat.add_zero]
     have e2 : (i * sz + j) % sz = j := by rw [Nat.mul_comm, Nat.mul_add_mod, Nat.mod_eq_of_lt hj']
     rw [e1, e2] at h6
     exact h6 hj
   obtain ⟨y, rfl, hr⟩ := hd
   refine ⟨(List.range len).map f, ⟨by simp; omega, fun y hy => ?_⟩, ?_, hr⟩
   ·obtain ⟨i, hi, rfl⟩ := List.mem_map.1 hy
    obtain ⟨_, _, _, _, hg, _⟩ := hfs i (by simpa using hi)
    exact hg
   ·refine Nat.le_trans (Nat.succ_le_succ ?_) (K.sl _ _)
    rw [← lsum_id]
    refine al_ge _ _ (by simp [h3]) fun i n d hn hd => ?_
    rw [List.map_map, List.getElem?_map, Option.map_eq_some_iff] at hn
    obtain ⟨j, hj, rfl⟩ := hn
    have hji : j = i ∧ i < len := by
     rw [List.getElem?_eq_some_iff] at hj
     obtain ⟨h6, h7⟩ := hj
     simp at h6 h7
     exact ⟨h7.symm, h6⟩
    obtain ⟨rfl, hi⟩ := hji
    obtain ⟨_, ei, h6, h7, _⟩ := hfs j hi
    rw [List.getElem?_map, h6] at hd
    simp at hd; subst hd
    exact h7
theorem decU_parts {fuel T n : Nat} {l : List (TypeId × Nat × Nat)} {cs : List Value} {x : DataW H × List MemPlace} (h : partsB P T l n = true) (hx : DataW.trod enc P w 0 (fun _ => true) true fuel T cs = some x) :
  ∃ (m : Nat) (xs : List (DataW H × List MemPlace)), m < fuel ∧ cs.length = n ∧ x.1 = .agg (xs.map (·.1)) ∧ xs.length = l.length ∧ ∀ (i t off sz : Nat), l[i]? = some (t, off, sz) → ∃ y, xs[i]? = some y ∧ DataW.trod enc P w 0 (fun _ => true) true m t ((cs.drop off).take sz) = some y := by
 unfold partsB at h
 split at h
 ·rename_i fs hu
  simp only [Bool.and_eq_true, beq_iff_eq] at h
  obtain ⟨rfl, rfl⟩ := h
  obtain ⟨xs, m, hf, he, hl, hxs, hp⟩ := DataW.trod_struct hu hx
  refine ⟨m, xs, by omega, hl, by rw [he], by simp [hxs], fun i t off sz hi => ?_⟩
  rw [List.getElem?_map, Option.map_eq_some_iff] at hi
  obtain ⟨f, hfi, he⟩ := hi
  injection he with e1 e2; injection e2 with e2 e3
  subst e1; subst e2; subst e3
  have hfi' : fs[i]? = some f := by simpa using hfi
  have hlt : i < xs.length := by rw [hxs]; exact (Array.getElem?_eq_some_iff.1 hfi').1
  exact ⟨xs[i], List.getElem?_eq_getElem hlt, by rw [hp i f hfi']; exact List.getElem?_eq_getElem hlt⟩
 ·cases h
theorem agg_ge {xs : List (DataW H × List MemPlace)} {d : DataW H} {n : Nat} (ns : List Nat) (hd : d = .agg (xs.map (·.1))) (hl : xs.length = n) (hn : ns.length = n) (h : ∀ (i n : Nat) (y : DataW H × List MemPlace), ns[i]? = some n → xs[i]? = some y → n ≤ K.bk y.1) : lsum id ns + 1 ≤ K.bk d := by
 subst hd
 refine Nat.le_trans (Nat.succ_le_succ (al_ge _ _ (by simp [hl, hn]) fun i n d hi hd => ?_)) (K.ag _)
 rw [List.getElem?_map, Option.map_eq_some_iff] at hd
 obtain ⟨y, hy, rfl⟩ := hd
 exact h i n y hi hy
def NsGe (K : Bk H) (xs : List (DataW H × List MemPlace)) : Nat → List Nat → Prop
 | _, [] => True
 | i, n :: ns => (∃ y, xs[i]? = some y ∧ n ≤ K.bk y.1) ∧ NsGe K xs (i + 1) ns
theorem NsGe.spec {xs : List (DataW H × List MemPlace)} : ∀ {ns : List Nat} {k : Nat}, NsGe K xs k ns → ∀ (i n : Nat) (y : DataW H × List MemPlace), ns[i]? = some n → xs[k + i]? = some y → n ≤ K.bk y.1
 | [], _, _, i, n, y, hi, _ => by simp at hi
 | n' :: ns, k, h, i, n, y, hi, hy => by
  cases i with
  | zero =>
   simp at hi; subst hi
   obtain ⟨y', h1, h2⟩ := h.1
   rw [Nat.add_zero, h1] at hy; cases hy
   exact h2
  | succ i => exact NsGe.spec h.2 i n y (by simpa using hi) (by rw [show k + 1 + i = k + (i + 1) by omega]; exact hy)
theorem agg_ns {xs : List (DataW H × List MemPlace)} {d : DataW H} {n : Nat} (ns : List Nat) (hd : d = .agg (xs.map (·.1))) (hl : xs.length = n) (hn : ns.length = n) (h : NsGe K xs 0 ns) : lsum id ns + 1 ≤ K.bk d :=
 agg_ge ns hd hl hn (fun i n y h1 h2 => h.spec i n y h1 (by rw [Nat.zero_add]; exact h2))
theorem arrU_parts {fuel T n E sz : Nat} {cs : List Value} {x : DataW H × List MemPlace} (h : arrB P T n E sz = true) (hx : DataW.trod enc P w 0 (fun _ => true) true fuel T cs = some x) :
  ∃ (m : Nat) (xs : List (DataW H × List MemPlace)), m < fuel ∧ cs.length = n * sz ∧ x.1 = .agg (xs.map (·.1)) ∧ xs.length = n ∧ ∀ i, i < n → ∃ y, xs[i]? = some y ∧ DataW.trod enc P w 0 (fun _ => true) true m E ((cs.drop (i * sz)).take sz) = some y := by
 unfold arrB at h
 split at h
 ·rename_i m e hu
  simp only [Bool.and_eq_true, beq_iff_eq] at h
  obtain ⟨⟨rfl, rfl⟩, rfl, h4⟩ := h
  obtain ⟨xs, m', hf, he, hl, hxs, hp⟩ := DataW.trod_array hu hx
  refine ⟨m', xs, by omega, by rw [hl, h4], by rw [he], hxs, fun i hi => ?_⟩
  exact ⟨xs[i], List.getElem?_eq_getElem (by omega), by rw [hp i hi]; exact List.getElem?_eq_getElem (by omega)⟩
 ·cases h
theorem decU_arr4 {fuel T E sz : Nat} {α : Type} {e : α → List PV} {good : α → Prop} {u : α → Nat} (h : arrB P T 4 E sz = true) (hlen : ∀ y, (e y).length = sz) (hE : ∀ n, n < fuel → DecU K enc P w n E e good u) :
  DecU K enc P w fuel T (eA4 e) (fun x => good x.a0 ∧ good x.a1 ∧ good x.a2 ∧ good x.a3) (fun x => u x.a0 + (u x.a1 + (u x.a2 + (u x.a3 + 0))) + 1) := fun cs x hx => by
 obtain ⟨m, xs, hm, hl, hd, hxl, hp⟩ := arrU_parts h hx
 obtain ⟨z0, k0, q0⟩ := hp 0 (by omega)
 obtain ⟨z1, k1, q1⟩ := hp 1 (by omega)
 obtain ⟨z2, k2, q2⟩ := hp 2 (by omega)
 obtain ⟨z3, k3, q3⟩ := hp 3 (by omega)
 obtain ⟨y0, g0, b0, r0⟩ := hE m hm _ _ q0
 obtain ⟨y1, g1, b1, r1⟩ := hE m hm _ _ q1
 obtain ⟨y2, g2, b2, r2⟩ := hE m hm _ _ q2
 obtain ⟨y3, g3, b3, r3⟩ := hE m hm _ _ q3
 refine ⟨⟨y0, y1, y2, y3⟩, ⟨g0, g1, g2, g3⟩, agg_ns [u y0, u y1, u y2, u y3] hd hxl rfl ⟨⟨z0, k0, b0⟩, ⟨z1, k1, b1⟩, ⟨z2, k2, b2⟩, ⟨z3, k3, b3⟩, trivial⟩, ?_⟩
 have e0 : cs.drop 0 = cs := List.drop_zero
 rw [← e0]
 have := reads_cons (off := 0) (by simpa using r0) (hlen y0) (reads_cons (by simpa using r1) (hlen y1) (reads_cons (by rw [show 0 + sz + sz = 2 * sz by omega]; exact r2) (hlen y2) (reads_cons (by rw [show 0 + sz + sz + sz = 3 * sz by omega]; exact r3) (hlen y3) (reads_nil (by omega)))))
 simpa using this
theorem decU_arg {T : TypeId} {v : Value} {d : DataW H} {ps : List MemPlace} {α : Type} {e : α → List PV} {good : α → Prop} {u : α → Nat} (hT : ∀ n, DecU K enc P w n T e good u) (h : DataW.Trod enc P w 0 (fun _ => true) true T v d ps) : ∃ y, good y ∧ u y ≤ K.bk d ∧ Reads1 w (fun _ => False) v.cells.toList (e y) := by
 obtain ⟨fuel, hf⟩ := h
 exact hT fuel _ _ hf
end
section
variable {H : Type} {enc : TypeId × Value → H}
theorem law_upto {C : Checked} {os : Os} {f : FuncId} {fn : Func} {s : ChangeSpec} {s2 : OpenSpec} {k : (H : Type) → List (DataW H) → Bool} (hk : s2.cond = some k) {F : Stop.Interp} {B : TypeId} {fresh handsOn : Bool}
  (own : ownKnob C.prog.godebug = none) (started : os.Started) (noInit : C.prog.inits.idxOf? f = none) (hfn : C.prog.funcs[f]? = some fn)
  (witness : ∃ (w : World) (tape : Tape) (i : Input), w.os = os ∧ (w.forCall tape i).Shaped C.prog ∧ i.vars = [] ∧ Input.okWide C.prog (w.forCall tape i) .any w.heap.size f i ∧
   s2.pre6 enc C.prog fn [] false (w.forCall tape i).memory i.args ∧ ({} : Assume).holds C.prog (lone (Frame.enter C.prog f i.args .normal) [] (w.forCall tape i)))
  (hl : laidOutB C.prog = true) (hr : readB C.prog fn.params.toList = true) (hvars : s.vars = []) (hv2 : s2.vars = []) (hres : fn.resultTypes = #[B]) (hB : C.prog.underlying B = some .bool)
  (hs : ∀ ds : List (DataW H), ds.length = fn.params.size → s.fn H ds = { results := [.lit (.bool true)], args := ds })
  (hpost : ∀ W args v W', s.post enc C.prog fn false fresh handsOn false W args v W' → (s2.at F).post enc C.prog fn false fresh handsOn false W args v W')
  (hcall : ∀ (W : World) (base : Nat) (args : Array Value) (ds : List (DataW H)) (ps : List MemPlace), (∀ (j : Nat) t v, fn.params[j]? = some t → args[j]? = some v → Value.okWide C.prog W .any base t v) → DataW.TrodAll enc C.prog W 0 (fun _ => true) true fn.params.toList args.toList ds ps → k H ds = true → ∃ asx : List PV, ArgsRd W asx args ∧ Fn G C.prog f asx [.p (.bool true)]) (hG : G = [] := by rfl) :
  ReturnsInHanded {} C os f .any (s2.pre6 enc C.prog fn [] false) ((s2.at F).post enc C.prog fn false fresh handsOn false) := by
 refine returnsInHanded_of_cond hk own started noInit hfn witness ?_
 intro W base args ds gs before hval hW _ hkk _
 have hW0 : DataW.Whole enc C.prog fn.params.toList s.vars false W args.toList ds gs before := by rw [hvars, ← hv2]; exact hW
 have hW' := hW0
 obtain ⟨p, q, hA, hV, rfl, hfz, hnd⟩ := hW0
 have hV' : gs = [] ∧ q = [] := by rw [hvars] at hV; exact trodVars_none hV
 obtain ⟨rfl, rfl⟩ := hV'
 rw [List.append_nil] at hkk
 obtain ⟨asx, ⟨h1, h2⟩, h3⟩ := hcall W base args ds p hval hA hkk
 refine (h3 W (fun _ => False) args (fun _ h => h.elim) (fun x hx => by rw [hG] at hx; cases hx) h1 h2).mono ?_
 rintro e W' ⟨v, O', rfl, hg, _, hrt⟩
 have hv : v = .bool true := by
  have : Rd W' O' (.bool true) v := hrt
  cases this; rfl
 subst hv
 have hlen : ∀ {ts : List TypeId} {vs : List Value} {ds : List (DataW H)} {ps : List MemPlace}, DataW.TrodAll enc C.prog W 0 (fun _ => true) true ts vs ds ps → ds.length = ts.length := by
  intro ts
  induction ts with
  | nil => intro vs ds ps h; obtain ⟨_, rfl, _⟩ := trodAll_nil h; rfl
  | cons t ts ih => intro vs ds ps h; obtain ⟨v, vs', d, ds', p, q, rfl, rfl, rfl, h1, h2⟩ := trodAll_cons h; simp [ih h2]
 exact ⟨_, rfl, hpost _ _ _ _ (law_post hl hr hvars (by rw [List.append_nil] at hW'; rw [List.append_nil] at *; exact hW') hA hg hres hB (hs ds (by rw [hlen hA]; simp)))⟩
end
end Go.Abs

