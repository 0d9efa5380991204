/- The abstract layer that the proof stands on: no condition. -/
import Derived.Test.YtiefoagopfeibaaGreatPureRunsA3
import Derived.Test.YtiefoagopfeibaaGreatPureRunsA2
import Derived.ProofKit
import Derived.OpenShut
import Derived.LaidMore
import Derived.Stop.Joined
import Derived.WideKeyEntry
import Derived.DeepKeys4
import Derived.Shelf.SlSortCmp.NoneTotal
/- Values that hold rows of the call's own among their cells. -/
namespace Go.Abs
variable {G : List (Nat × List PV)}
open Go.RowKit
structure ReadsA (w : World) (O : Nat → Prop) (θ : Nat → Option Value) (us : List Value) (cells : List AV) : Prop where
 len : us.length = cells.length
 one : ∀ (j : Nat) (u : Value), us[j]? = some u → u.oneCell' = true
 rd : ∀ (j : Nat) (c : AV) (u : Value), cells[j]? = some c → us[j]? = some u → RdA w O θ c u
theorem ReadsA.agg {w : World} {O : Nat → Prop} {θ : Nat → Option Value} {us : List Value} {cells : List AV} (h : ReadsA w O θ us cells) : RdA w O θ (.agg cells) (.agg us.toArray) :=
 .agg _ _ (by simpa using h.len) (fun j u hu => h.one j u (by simpa using hu)) (fun j c u hc hu => h.rd j c u hc (by simpa using hu))
theorem ReadsA.cut {w : World} {O : Nat → Prop} {θ : Nat → Option Value} {us : List Value} {cells : List AV} (h : ReadsA w O θ us cells) (k n : Nat) : ReadsA w O θ ((us.drop k).take n) ((cells.drop k).take n) where
 len := by rw [List.length_take, List.length_take, List.length_drop, List.length_drop, h.len]
 one := fun j u hu => by
  rw [List.getElem?_take] at hu
  split at hu
  ·rw [List.getElem?_drop] at hu; exact h.one _ u hu
  ·cases hu
 rd := fun j c u hc hu => by
  rw [List.getElem?_take] at hc hu
  split at hc
  ·rename_i hj
   rw [if_pos hj, List.getElem?_drop] at hu
   rw [List.getElem?_drop] at hc
   exact h.rd _ c u hc hu
  ·cases hc
theorem ReadsA.splice {w : World} {O : Nat → Prop} {θ : Nat → Option Value} {us vs : List Value} {ps qs : List AV} {k : Nat} (h : ReadsA w O θ us ps) (h' : ReadsA w O θ vs qs) (hk : k + qs.length ≤ ps.length) : ReadsA w O θ (Go.Abs.splice us k vs) (Go.Abs.splice ps k qs) := by
 have hk' : k + vs.length ≤ us.length := by rw [h'.len, h.len]; exact hk
 refine ⟨by rw [splice_length _ _ _ hk', splice_length _ _ _ hk]; exact h.len, fun j u hu => ?_, fun j p u hp hu => ?_⟩
 ·rw [splice_get _ _ _ hk'] at hu
  split at hu
  ·exact h'.one _ u hu
  ·exact h.one _ u hu
 ·rw [splice_get _ _ _ hk] at hp
  rw [splice_get _ _ _ hk', h'.len] at hu
  split at hp
  ·rename_i hj; rw [if_pos hj] at hu; exact h'.rd _ p u hp hu
  ·rename_i hj; rw [if_neg hj] at hu; exact h.rd _ p u hp hu
theorem readsA_of_pv {w : World} {O : Nat → Prop} {θ : Nat → Option Value} {us : List Value} {ps : List PV} (h : Reads1 w O us ps) (h1 : ∀ (j : Nat) (u : Value), us[j]? = some u → u.oneCell' = true) : ReadsA w O θ us (ps.map .pv) where
 len := by simpa using h.1
 one := h1
 rd := fun j c u hc hu => by
  rw [List.getElem?_map, Option.map_eq_some_iff] at hc
  obtain ⟨p, hp, rfl⟩ := hc
  exact .pv _ _ (h.2.2 j p u hp hu)
def fillAV (place : List (Nat × Nat)) : List AV → List (Nat × AV) → Option (List AV)
 | cells, [] => some cells
 | cells, (i, v) :: vs => match place[i]? with
  | some (off, size) => bif Nat.beq v.cells.length size && (v.cellish && Nat.ble (off + v.cells.length) cells.length) then fillAV place (splice cells off v.cells) vs else none
  | none => none
section
variable {ro : Option Nat} {P : Program} {c : Cx G} {s s' : St} {o : Oper} {d : Option Nat}
theorem freshG_free {k : Nat} (h : s.free.elem k = true) : freshG s k = true := by simp only [freshG, h, Bool.or_true]
theorem op_load_lp_aggM {T n : Nat} {x : Operand} {id k : Nat} {t : TypeId} {cells cs : List AV} (ho : o.op = .load T x) (hx : ev s x = some (.lp id k)) (hb : look id s.hp = some (.box t cells))
  (hc : (cells.drop k).take n = cs) (hl : cs.length = n) (ht : aggB P T n = true) (hd : o.dst = d) (hn : dOk s d = true) :
  OpOk ro P c o s (s.put d (some (.agg cs))) :=
 opOk_value hd hn (by rw [ho]; intro k h; cases h) fun a w O θ hs => by
  have h := ev_ok hs hx
  generalize hv : a.eval x = u at h
  cases h with
  | lp _ _ g h =>
   obtain ⟨v', hv', ⟨g', us, he, h1, h2, h3⟩, _⟩ := hs.hp id _ hb
   rw [h] at hv'; cases hv'
   cases he
   have hR : ReadsA w O θ us.toList cells := ⟨by simpa using h2, fun j u hu => by
     have hlt : j < cells.length := by rw [← h2]; simpa using (List.getElem?_eq_some_iff.1 hu).1
     exact (h3 j cells[j] u (List.getElem?_eq_getElem hlt) (by simpa using hu)).2, fun j c u hc hu => (h3 j c u hc (by simpa using hu)).1⟩
   have hlen : k + n ≤ us.size ∨ n = 0 := by
    have : ((cells.drop k).take n).length = n := by rw [hc]; exact hl
    rw [List.length_take, List.length_drop, ← h2] at this
    omega
   have hcut := hR.cut k n
   rw [hc] at hcut
   refine ⟨.agg ((us.toList.drop k).take n).toArray, ?_, hcut.agg⟩
   have := run_loadAt_agg (P := P) ht w ⟨g, k, none⟩ ((us.toList.drop k).take n) (by simp; omega) (fun j u hu => ?_)
   ·simp [execOp, ho, hv, this]
   ·rw [List.getElem?_take] at hu
    split at hu
    ·rw [List.getElem?_drop] at hu
     rw [Addr.add_lit, cell_of_row w g _ us t (0, 0) h1]
     simpa using hu
    ·cases hu
theorem fill_okA {place : List (Nat × Nat)} {pf : Nat → Option (Nat × Nat)} (hpf : ∀ i p, place[i]? = some p → pf i = some p) {O : Nat → Prop} {θ : Nat → Option Value} {a : Act} {w : World} (hs : SimAt c s O θ a w) :
  ∀ (parts : List (Nat × Operand)) (xs : List (Nat × AV)) (cells : List AV) (us : Array Value) (r : List AV), EvL w O θ a.eval parts xs → fillAV place cells xs = some r → ReadsA w O θ us.toList cells →
  ∃ us', Instr.fill pf us (parts.map fun (i, x) => (i, a.eval x)) = some us' ∧ ReadsA w O θ us'.toList r
 | [], xs, cells, us, r, h1, h2, h3 => by
  cases xs with
  | cons _ _ => cases h1
  | nil =>
  simp [fillAV] at h2; subst h2
  exact ⟨us, rfl, h3⟩
 | (i, x) :: parts, xs, cells, us, r, h1, h2, h3 => by
  cases xs with
  | nil => cases h1
  | cons xv vs =>
  obtain ⟨i', v⟩ := xv
  obtain ⟨rfl, hv, hvs⟩ := h1
  simp only [fillAV] at h2
  split at h2
  ·rename_i off size hpl
   simp only [cond_eq_ite] at h2
   split at h2
   ·rename_i hc
    simp only [Bool.and_eq_true] at hc
    have hc1 : v.cells.length = size := Nat.eq_of_beq_eq_true hc.1
    have hc2 : off + v.cells.length ≤ cells.length := Nat.le_of_ble_eq_true hc.2.2
    obtain ⟨q1, q2, q3⟩ := AV.cells_ok hv hc.2.1 hs.one
    have hr1 : ReadsA w O θ (a.eval x).cells.toList v.cells := ⟨by simpa using q1, fun j u hu => q2 u (List.mem_of_getElem? hu), fun j c u hc hu => q3 j c u hc (by simpa using hu)⟩
    have hsz : (a.eval x).cells.size = size := by rw [q1, hc1]
    have hus : us.size = cells.length := by have := h3.len; simpa using this
    have hsp := foldl_splice (a.eval x).cells off us (by omega)
    obtain ⟨us', e1, e2⟩ := fill_okA hpf hs parts vs _ ((a.eval x).cells.zipIdx.foldl (fun cs (c, j) => cs.setIfInBounds (off + j) c) us) r hvs h2 (by rw [hsp]; exact h3.splice hr1 hc2)
    refine ⟨us', ?_, e2⟩
    simp only [List.map_cons, Instr.fill, hpf _ _ hpl]
    rw [if_neg (by simp [hsz]; omega)]
    exact e1
   ·cases h2
  ·cases h2
theorem czs_one {vs : List Value} {ps : List PV} (h : czs vs ps) : ∀ (j : Nat) (u : Value), vs[j]? = some u → u.oneCell' = true := by
 obtain ⟨h1, h2⟩ := czs_spec h
 intro j u hu
 have hlt : j < ps.length := by have := (List.getElem?_eq_some_iff.1 hu).1; omega
 exact (cz_one (h2 j _ u (List.getElem?_eq_getElem hlt) hu)).2
theorem op_buildM {T : Nat} {parts : List (Nat × Operand)} {place : List (Nat × Nat)} {z : Value} {zs : List PV} {r : List AV} {xs : List (Nat × AV)} (ho : o.op = .build T parts.toArray) (hz : zeroIs P T z) (hzs : czs z.cells.toList zs) (hpl : placesB P T place = true)
  (hx : evs s parts = some xs) (hr : fillAV place (zs.map .pv) xs = some r) (hd : o.dst = d) (hn : dOk s d = true) : OpOk ro P c o s (s.put d (some (.agg r))) :=
 opOk_value hd hn (by rw [ho]; intro k h; cases h) fun a w O θ hs => by
  obtain ⟨fs, hu, hfs⟩ := placesB_spec hpl
  obtain ⟨us', h1, h2⟩ := fill_okA (place := place) (pf := (place[·]?)) (fun _ _ h => h) hs parts xs (zs.map .pv) z.cells r (EvL.of hs hx) hr (readsA_of_pv (czs_reads1 hzs) (czs_one hzs))
  refine ⟨.agg us', ?_, ?_⟩
  ·have hfs' := hfs w
   simp only [bind_pure_comp] at hfs'
   simp [execOp, ho, Instr.build, (zeroIs_spec hz w).1, run_underlying hu, hfs', h1]
  ·have := h2.agg; simpa using this
end
theorem imp_any {c : Cx G} {s : St} (id off : Nat) {t : TypeId} {cells : List AV} (hb : look id s.hp = some (.box t cells)) : Imp c s (s.setBlk id (some (.box t (cells.set off .any)))) := by
 rintro a w ⟨O, θ, h⟩
 refine ⟨O, θ, ?_⟩
 obtain ⟨v, hv, hbk, _⟩ := h.hp id _ hb
 refine h.upd (w' := w) hb hv (World.grownBy.refl _ _) ?_
 obtain ⟨g, us, rfl, h1, h2, h3⟩ := hbk
 refine ⟨g, us, rfl, h1, by simpa using h2, fun j x u hx hu => ?_⟩
 by_cases hj : off = j
 ·subst hj
  have hlt : off < cells.length := by rw [← h2]; exact (Array.getElem?_eq_some_iff.1 hu).1
  rw [List.getElem?_set_self hlt] at hx
  cases hx
  exact ⟨.any u, (h3 off cells[off] u (List.getElem?_eq_getElem hlt) hu).2⟩
 ·rw [List.getElem?_set_ne hj] at hx
  exact h3 j x u hx hu
end Go.Abs

/- From the arguments' readings to abstract values; a law's row, out of its contract. -/
namespace Go.Abs
variable {G : List (Nat × List PV)}
open Go.ChangeShapes Go.WideShapes Go.ChangeAt Go.RowKit
section
variable {H : Type} (enc : TypeId × Value → H) (P : Program) (w : World)
def DecAt (fuel : Nat) (T : TypeId) {α : Type} (e : α → List PV) (good : α → Prop) : Prop :=
 ∀ (cs : List Value) (x : DataW H × List MemPlace), DataW.trod enc P w 0 (fun _ => true) true fuel T cs = some x → ∃ y, good y ∧ Reads1 w (fun _ => False) cs (e y)
variable {enc P w}
theorem reads1_one {v : Value} {p : PV} (h : Rd w (fun _ => False) p v) (hp : p.one = true) : Reads1 w (fun _ => False) [v] [p] := by
 refine ⟨rfl, by simpa using hp, fun j q u hq hu => ?_⟩
 cases j with
 | zero => simp at hq hu; subst hq; subst hu; exact h
 | succ j => simp at hq
theorem dec_bool {fuel T : Nat} (h : P.underlying T = some .bool) : DecAt enc P w fuel T eB (fun _ => True) := fun cs x hx => by
 obtain ⟨b, rfl, _⟩ := DataW.trod_bool h hx
 exact ⟨b, trivial, reads1_one (.bool b) rfl⟩
def i64ok (n : Int) : Prop := -9223372036854775808 ≤ n ∧ n ≤ 9223372036854775807
theorem dec_int {fuel T : Nat} (h : P.underlying T = some (.int .i64)) : DecAt enc P w fuel T eI i64ok := fun cs x hx => by
 obtain ⟨n, rfl, _, hw⟩ := DataW.trod_int h hx
 exact ⟨n, bounds_i64 hw, reads1_one (.int _ n) rfl⟩
def strok (s : List UInt8) : Prop := s.length ≤ maxLen
def listok {α : Type} (good : α → Prop) (l : List α) : Prop := l.length ≤ maxLen ∧ ∀ y ∈ l, good y
def partsB (P : Program) (T : TypeId) (l : List (TypeId × Nat × Nat)) (n : Nat) : Bool :=
 match P.underlying T with
 | some (.struct fs) => (fs.toList.map (fun f => (f.type, f.offset, P.cellsOf f.type)) == l) && P.cellsOf T == n
 | _ => false
theorem reads_nil {cs : List Value} {off : Nat} (h : cs.length = off) : Reads1 w (fun _ => False) (cs.drop off) [] := by
 rw [List.drop_eq_nil_of_le (by omega)]
 exact ⟨rfl, by simp, fun j p u hp => by simp at hp⟩
theorem reads_cons {cs : List Value} {off sz : Nat} {p q : List PV} (h1 : Reads1 w (fun _ => False) ((cs.drop off).take sz) p) (hp : p.length = sz) (h2 : Reads1 w (fun _ => False) (cs.drop (off + sz)) q) : Reads1 w (fun _ => False) (cs.drop off) (p ++ q) := by
 have e : cs.drop off = (cs.drop off).take sz ++ cs.drop (off + sz) := by
  rw [← List.drop_drop, List.take_append_drop]
 rw [e]
 have hl : ((cs.drop off).take sz).length = sz := by rw [h1.1, hp]
 refine ⟨by rw [List.length_append, List.length_append, h1.1, h2.1], fun x hx => ?_, fun j x u hx hu => ?_⟩
 ·rcases List.mem_append.1 hx with h | h
  ·exact h1.2.1 x h
  ·exact h2.2.1 x h
 ·rw [List.getElem?_append] at hx hu
  rw [hl] at hu; rw [hp] at hx
  split at hx
  ·rename_i hj; rw [if_pos hj] at hu; exact h1.2.2 j x u hx hu
  ·rename_i hj; rw [if_neg hj] at hu; exact h2.2.2 _ x u hx hu
def arrB (P : Program) (T : TypeId) (n E sz : Nat) : Bool :=
 match P.underlying T with
 | some (.array m e) => (m == n && e == E) && (P.cellsOf E == sz && P.cellsOf T == n * sz)
 | _ => false
end
end Go.Abs
namespace Go.Abs
variable {G : List (Nat × List PV)}
theorem reads0 {w : World} {cs : List Value} {p : List PV} (h : Reads1 w (fun _ => False) (cs.drop 0) p) : Reads1 w (fun _ => False) cs p := by simpa using h
end Go.Abs
namespace Go.Abs
variable {G : List (Nat × List PV)}
open Go.ChangeShapes Go.WideShapes Go.ChangeAt Go.RowKit
section
variable {H : Type} {enc : TypeId × Value → H} {P : Program} {w : World}
end
end Go.Abs

/- A law's row, out of its contract. -/
namespace Go.Abs
variable {G : List (Nat × List PV)}
open Go.ChangeShapes Go.WideShapes Go.ChangeAt Go.RowKit
section
variable {H : Type} {enc : TypeId × Value → H} {P : Program}
def readB (P : Program) (ts : List TypeId) : Bool := ts.all fun t => P.readableRec t && decide (t < P.types.size)
theorem trodAll_carry (hl : laidOutB P = true) {W W' : World} (hb : Below W.heap.size W W') : ∀ {ts : List TypeId} {vs : List Value} {ds : List (DataW H)} {ps : List MemPlace}, readB P ts = true → DataW.TrodAll enc P W 0 (fun _ => true) true ts vs ds ps → (∀ x ∈ ps, x.block < W.heap.size) →
  DataW.TrodAll enc P W' 0 (fun b => decide (b < W.heap.size)) true ts vs ds ps
 | [], vs, ds, ps, _, h, _ => by
  obtain ⟨rfl, rfl, rfl⟩ := trodAll_nil h
  rfl
 | t :: ts, vs, ds, ps, hr, h, hlt => by
  obtain ⟨v, vs', d, ds', p, q, rfl, rfl, rfl, h1, h2⟩ := trodAll_cons h
  unfold readB at hr
  rw [List.all_cons] at hr
  simp only [Bool.and_eq_true, decide_eq_true_eq] at hr
  exact ⟨p, q, Below.trod hl hr.1.1 hr.1.2 h1 hb (fun x hx => hlt x (by simp [hx])), trodAll_carry hl hb (by unfold readB; exact hr.2) h2 (fun x hx => hlt x (by simp [hx])), rfl⟩
theorem law_post {f : Func} {s : ChangeSpec} {apart fresh handsOn : Bool} {W W' : World} {args : Array Value} {ds : List (DataW H)} {ps : List MemPlace} {B : TypeId} (hl : laidOutB P = true) (hr : readB P f.params.toList = true) (hvars : s.vars = [])
  (hW : DataW.Whole enc P f.params.toList s.vars apart W args.toList ds [] ps) (hA : DataW.TrodAll enc P W 0 (fun _ => true) true f.params.toList args.toList ds ps) (hg : W.grownBy W' none) (hres : f.resultTypes = #[B]) (hB : P.underlying B = some .bool)
  (hs : s.fn H ds = { results := [.lit (.bool true)], args := ds }) : s.post enc P f apart fresh handsOn false W args (.bool true) W' := by
 have hb : Below W.heap.size W W' := (Below.refl _ W).grown hg (Nat.le_refl _) (by simp)
 have hlt : ∀ x ∈ ps, x.block < W.heap.size := fun x hx => by simpa using hW.lt x hx
 refine ⟨ds, [], ps, [], ps, [], hW, ?_, ?_, ?_, hb.frame _, fun h => by cases h⟩
 ·rw [List.append_nil, hs, hres]
  exact trodAll_mk1 (shut_bool hB true)
 ·rw [List.append_nil, hs]
  exact trodAll_carry hl hb hr hA hlt
 ·rw [List.append_nil, hs, hvars]
  rfl
def ArgsRd (W : World) (asx : List PV) (args : Array Value) : Prop := args.size = asx.length ∧ ∀ (i : Nat) (p : PV) (v : Value), asx[i]? = some p → args[i]? = some v → Rd W (fun _ => False) p v
end
def RdAll (W : World) : List PV → List Value → Prop
 | [], [] => True
 | p :: ps, v :: vs => Rd W (fun _ => False) p v ∧ RdAll W ps vs
 | _, _ => False
theorem RdAll.args {W : World} : ∀ {asx : List PV} {vs : List Value}, RdAll W asx vs → vs.length = asx.length ∧ ∀ (i : Nat) (p : PV) (v : Value), asx[i]? = some p → vs[i]? = some v → Rd W (fun _ => False) p v
 | [], [], _ => ⟨rfl, fun i p v h => by simp at h⟩
 | p :: ps, v :: vs, h => by
  obtain ⟨h1, h2⟩ := h.2.args
  refine ⟨by simp [h1], fun i q u hq hu => ?_⟩
  cases i with
  | zero => simp at hq hu; subst hq; subst hu; exact h.1
  | succ i => exact h2 i q u (by simpa using hq) (by simpa using hu)
 | [], _ :: _, h | _ :: _, [], h => by simp [RdAll] at h
theorem argsRd_all {W : World} {xs : List PV} {args : Array Value} (h : RdAll W xs args.toList) : ArgsRd W xs args := by
 obtain ⟨h1, h2⟩ := h.args
 exact ⟨by simpa using h1, fun i p v hp hv => h2 i p v hp (by simpa using hv)⟩
def oneT (P : Program) (T : TypeId) : Bool := match P.underlying T with
 | some .bool | some (.int _) | some .string | some (.slice _) => true
 | _ => false
theorem arg_one {W : World} {P : Program} {base : Nat} {T : TypeId} {v : Value} {p : PV} (h : Reads1 W (fun _ => False) v.cells.toList [p]) (hv : Value.okWide P W .any base T v) (ht : oneT P T = true) : Rd W (fun _ => False) p v := by
 have : v.cells.toList = [v] := by
  unfold oneT at ht
  unfold Value.okWide at hv
  split at hv
  ·rename_i hu; rw [hu] at ht; cases ht
  ·rename_i hu; rw [hu] at ht; cases ht
  ·unfold Cell.okWide at hv
   cases v <;> first | rfl | skip
   all_goals
    exfalso
    revert hv
    split <;> simp_all [Cell.ok]
    try (split <;> simp_all)
 rw [this] at h
 exact h.2.2 0 p v rfl rfl
end Go.Abs

/- A law's row whose package variables are listed, out of its contract. -/
namespace Go.Abs
variable {G : List (Nat × List PV)}
open Go.ChangeShapes Go.WideShapes Go.ChangeAt Go.RowKit
section
variable {P : Program} {w : World}
end
section
variable {H : Type} {enc : TypeId × Value → H} {P : Program}
end
end Go.Abs

/- Functions that are handed yield on; shifts; maps in boxes that are written no more. -/
namespace Go.Abs
variable {G : List (Nat × List PV)}
open Go.RowKit
def ItF (G : List (Nat × List PV)) (P : Program) (f : FuncId) (m : Nat) (args : Nat → List PV) (rows : List (List PV)) (sp k0 k1 : Nat) (res : List PV) : Prop :=
 ∀ (l : Nat) (J : Nat → (Nat → Prop) → (Nat → Prop) → World → Prop) (_ : ∀ {k : Nat} {O I : Nat → Prop} {w : World} {O' I' : Nat → Prop} {w' : World}, J k O I w → Stp O I w O' I' w' → J k O' I' w') (_ : ∀ {k : Nat} {O I : Nat → Prop} {w : World}, J k O I w → GlobOk G w O)
  (w : World) (O I : Nat → Prop) (vs : Array Value), (∀ g, O g → g < w.heap.size) → (∀ g, I g → O g) → vs.size = (args l).length →
  (∀ (i : Nat) (p : PV) (v : Value), (args l)[i]? = some p → vs[i]? = some v → Rd w O p v) → YieldOk P l m rows sp J → J k0 O I w →
  Calls P f vs w fun e w' => ∃ v O', e = .returned v ∧ J k1 O' I w' ∧ Rel O I w O' w' ∧ RdA w' O' (fun _ => none) (topW (res.map .pv)) v
structure ItFx (c : Cx G) (w : World) (O I : Nat → Prop) : Prop where
 w0 : c.w0 = w
 X : c.X = I
 K : c.K = I
 L : c.L = fun g => O g ∧ ¬ I g
def ItFPost (P : Program) (fn : Func) (c : Cx G) (w : World) (O I : Nat → Prop) (k : Nat) (res : List PV) : Exit → Act → World → Prop :=
 bodyPostM (FF none) 0 P fn fun e w' => ∃ v O', e = .returned v ∧ c.J k O' I w' ∧ Rel O I w O' w' ∧ RdA w' O' (fun _ => none) (topW (res.map .pv)) v
theorem itf_of_body {P : Program} {f : FuncId} {fn : Func} {code : Code} {n m : Nat} {args : Nat → List PV} {rows : List (List PV)} {sp k0 k1 : Nat} {res : List PV} (hf : P.funcs[f]? = some fn) (hb : fn.body = some code) (hn : fn.ntmps = n) (hl : ∀ l, Nat.ble (args l).length n = true)
  (h : ∀ l (c : Cx G) w O I, ItCx P l m rows sp c → ItFx c w O I → (∀ g, I g → O g) → AW none P c code (ItFPost P fn c w O I k1 res) { n := n, fr := argsFr 0 (args l), hp := [], next := 0, ys := k0 }) : ItF G P f m args rows sp k0 k1 res := by
 intro l J Jst JG w O I vs hO hI hsz hrd hy hJ
 refine (callsIn_wide (n := 0)).1 (callsIn_of_wp_marks (F := FF none) hf hb trivial ?_)
 have hl' : (args l).length ≤ n := Nat.le_of_ble_eq_true (hl l)
 let c : Cx G := { w0 := w, L := fun g => O g ∧ ¬ I g, X := I, K := I, J := J, Jst := Jst, JG := JG, KX := fun _ h => h, t0 := #[] }
 refine h l c w O I ⟨hy, fun g hg => hg⟩ ⟨rfl, rfl, rfl, rfl⟩ hI _ w ?_
 refine ⟨O, fun _ => none, by simp [hn]; omega, .nil, ?_, fun id b hb => (by simp [look] at hb), fun i j bi bj vi vj g hi => (by simp [look] at hi), fun id v hv => (by cases hv), fun k hk => (by cases hk), fun id v hv => (by cases hv), hO, ⟨rfl, rfl, rfl, Nat.le_refl _, fun _ _ _ => rfl⟩, hI, fun g hg => hO g (hI g hg), fun g hg => hO g hg.1, fun d hd => (by cases hd), fun g hg _ => ?_, fun t ht => (by cases ht), ?_⟩
 ·intro t x hx
  obtain ⟨p, rfl, _, hp⟩ := argsFr_look (args l) 0 t x hx
  have hp' : (args l)[t]? = some p := by simpa using hp
  have ht : t < vs.size := by rw [hsz]; exact (List.getElem?_eq_some_iff.1 hp').1
  have hv : vs[t]? = some vs[t] := by simp [ht]
  have : (vs ++ Array.replicate (fn.ntmps - vs.size) undef).getD t undef = vs[t] := by
   simp [Array.getElem?_append, ht]
  rw [this]
  exact .pv _ _ (hrd t p _ hp' hv)
 ·by_cases h1 : I g
  ·exact .inl h1
  ·exact .inr ⟨hg, h1⟩
 ·refine Jst hJ ⟨rfl, rfl, rfl, Nat.le_refl _, fun _ _ _ => rfl, fun g h => .inl h, fun g h _ => h, hO, fun g hI => ?_⟩
  rcases hI with hI | ⟨id, b, v, h1, _⟩ | ⟨d, hd, _⟩
  ·exact .inl hI
  ·simp [look] at h1
  ·cases hd
section
variable {ro : Option Nat} {P : Program} {c : Cx G} {s s' : St} {o : Oper} {d : Option Nat}
theorem post_itf {fn : Func} {k : Nat} {w0 : World} {O0 I : Nat → Prop} {rvs : List ResultVar} {res : List PV} {e : Exit} (hc : ItFx c w0 O0 I) (hI : ∀ g, I g → O0 g) (hk : s.ys = k) (hr : fn.results = rvs.toArray) (h : RWs P s rvs (res.map .pv)) (he : e = .ret ∨ e = .normal) :
  Post c (ItFPost P fn c w0 O0 I k res) e s := by
 rintro a w ⟨O, θ, hs⟩
 have key : LeavesInM (FF none) 0 P fn a.tmps (fun e w' => ∃ v O', e = .returned v ∧ c.J k O' I w' ∧ Rel O0 I w0 O' w' ∧ RdA w' O' (fun _ => none) (topW (res.map .pv)) v) a.defers .returning w := by
  refine leaves_marks a.defers a w rfl hs fun a' w' ht hs2 => ?_
  obtain ⟨us, h1, h2, h3⟩ := h.run hs2
  rw [ht] at h1
  obtain ⟨q1, q2, q3, q4⟩ := hc
  have he := hs2.ext
  rw [q1, q4] at he
  have hrd : ∀ (i : Nat) (p : PV) (u : Value), res[i]? = some p → us[i]? = some u → Rd w' O p u := fun i p u hp hu => rda_pv (h3 i (.pv p) u (by rw [List.getElem?_map, hp]; rfl) hu)
  refine ⟨_, run_results hr h1, _, O, rfl, ?_, ⟨he.os, he.tape, he.output, he.size, fun b hb hn => he.block b hb (fun h => ?_), fun g hg => ?_, fun g h1 h2 => hs2.xo g (by rw [q2]; exact h2), hs2.olt⟩, ?_⟩
  ·rw [← hk]
   exact c.Jst hs2.jn ⟨rfl, rfl, rfl, Nat.le_refl _, fun _ _ _ => rfl, fun g h => .inl h, fun g h _ => h, hs2.olt, fun g hg => .inl (.inl (by rw [q3]; exact hg))⟩
  ·rcases hn with hn | hn
   ·exact hn h.1
   ·exact h.2 hn
  ·rcases Nat.lt_or_ge g w0.heap.size with hlt | hge
   ·rcases hs2.oc g hg (by rw [q1]; exact hlt) with h5 | h5
    ·rw [q2] at h5; exact .inl (hI g h5)
    ·rw [q4] at h5; exact .inl h5.1
   ·exact .inr hge
  ·match res, us, h2, hrd with
   | [r], [u], _, h3 => exact .pv _ _ (h3 0 r u rfl rfl)
   | [], [], _, h3 => exact .tup [] #[] rfl (by simp)
   | r :: r' :: rs, u :: u' :: us, h2, h3 =>
    refine .tup _ _ (by simpa using h2) (fun i r u hr hu => ?_)
    rw [show AV.pv _ :: List.map AV.pv (r' :: rs) = List.map AV.pv (_ :: r' :: rs) from rfl, List.getElem?_map, Option.map_eq_some_iff] at hr
    obtain ⟨p, hp, rfl⟩ := hr
    exact .pv _ _ (h3 i p u hp (by simpa using hu))
 rcases he with rfl | rfl
 ·exact key
 ·exact key
theorem op_callY {args : Nat → List PV} {fo : Operand} {xs : List Operand} {ts : Array TypeId} {f l m sp k1 : Nat} {rows : List (List PV)} {res : List PV} (hc : ItCx P l m rows sp c) (ho : o.op = .call { callee := .value fo, args := xs.toArray, argTypes := ts }) (hf : ev s fo = some (.pv (.fn f []))) (hx : evl s xs = some ((args l).map .pv))
  (hB : callB P f = true) (h : ItF G P f m args rows sp s.ys k1 res) (hd : o.dst = d) (hn : dOk s d = true) : OpOk ro P c o s ({ s with ys := k1 }.put d (some (topW (res.map .pv)))) := by
 rintro a w ⟨O, θ, hs⟩ K Q hK
 obtain ⟨e1, e2⟩ := evl_ok hs hx
 have hfv := ev_pv hs hf
 generalize hfa : a.eval fo = fv at hfv
 cases hfv with
 | fn _ _ us hn' hh =>
  refine ⟨fun f _ => trivial, ?_⟩
  have hus : us = #[] := by
   have : us.size = 0 := hn'
   exact Array.size_eq_zero_iff.1 this
  subst hus
  have hrun : (execOp a.eval o).run P w = .ok (.enter f ((xs.map a.eval).toArray)) w := by
   simp [execOp, ho, resolve, Deferred.ofValue, hfa, invoke, callB_spec hB]
  rw [Oper.semAt_plain _ _ _ (by rw [ho]; intro k h; cases h), hrun]
  refine ⟨fun h => by simp [FF, Fence.wide] at h, ?_⟩
  have hI : c.J s.ys O (fun g => Mine c s θ a.defers g ∧ O g) w := c.Jst hs.jn ⟨rfl, rfl, rfl, Nat.le_refl _, fun _ _ _ => rfl, fun g h => .inl h, fun g h _ => h, hs.olt, fun g h => .inl h.1⟩
  have hcall := h l c.J c.Jst c.JG w O (fun g => Mine c s θ a.defers g ∧ O g) (xs.map a.eval).toArray hs.olt (fun g h => h.2) (by have := e1; simp at this; simp [this]) (fun i p v hp hv => by
   exact rda_pv (e2 i (.pv p) v (by rw [List.getElem?_map, hp]; rfl) (by simpa using hv))) hc.y hI
  refine CallsIn.mono (callsIn_wide (n := 0 - 1).2 hcall) ?_
  rintro e w' ⟨v, O', rfl, hJ, hrel, hr⟩
  have hO := hrel.stp_hp
  have hmine : ∀ g, Mine c s θ a.defers g → O g := by
   intro g hg
   rcases hg with hg | ⟨id, b, v, h1, h2, h3⟩ | ⟨d', h1, h2⟩
   ·exact hs.xo g (c.KX g hg)
   ·obtain ⟨v', hv', _, hgv⟩ := hs.hp id b h1
    rw [h2] at hv'; cases hv'
    exact (hgv g h3).1
   ·obtain ⟨D, rfl, _, hOD, _⟩ := hs.marks d' h1
    cases h2; exact hOD
  have h1 : SimAt c { s with ys := k1 } O' θ a w' := by
   refine ⟨hs.size, hs.df, fun t x hx => (hs.fr t x hx).mono hrel.size hO (fun _ _ e => e), fun id b hb => ?_, hs.inj, hs.dom, hs.flt, hs.one, hrel.olt, ⟨hrel.os.trans hs.ext.os, hrel.tape.trans hs.ext.tape, hrel.output.trans hs.ext.output, Nat.le_trans hs.ext.size hrel.size, fun b hb hL => ?_⟩, fun g hg => hrel.o2 g (hs.xo g hg) ⟨.inl (hc.xk g hg), hs.xo g hg⟩, hs.xlt, hs.llt, fun d' hd' => ?_, fun g hg hlt => ?_, hs.kp, c.Jst hJ ⟨rfl, rfl, rfl, Nat.le_refl _, fun _ _ _ => rfl, fun g h => .inl h, fun g h _ => h, hrel.olt, fun g h => .inl ⟨h, hmine g h⟩⟩⟩
   ·obtain ⟨v, hv, hbo, hgv⟩ := hs.hp id b hb
    refine ⟨v, hv, hbo.mono hrel.size hO (fun _ _ e => e) (fun g hgg => hrel.block g (hgv g hgg).2.1 (.inr ⟨.inr (.inl ⟨id, b, v, hb, hv, hgg⟩), (hgv g hgg).1⟩)), fun g hgg => ?_⟩
    obtain ⟨g1, g2, g3⟩ := hgv g hgg
    exact ⟨hrel.o2 g g1 ⟨.inr (.inl ⟨id, b, v, hb, hv, hgg⟩), g1⟩, Nat.lt_of_lt_of_le g2 hrel.size, g3⟩
   ·rw [← hs.ext.block b hb hL]
    refine hrel.block b (Nat.lt_of_lt_of_le hb hs.ext.size) ?_
    by_cases hOb : O b
    ·right
     rcases hs.oc b hOb hb with hX | hL2
     ·exact ⟨.inl (hc.xk b hX), hOb⟩
     ·exact absurd hL2 hL
    ·exact .inl hOb
   ·obtain ⟨D, rfl, hD, hOD, h0⟩ := hs.marks d' hd'
    have hlt : D < w.heap.size := by
     rcases Nat.lt_or_ge D w.heap.size with h1 | h1
     ·exact h1
     ·rw [Array.getElem?_eq_none h1] at hD; cases hD
    have hm' : Mine c s θ a.defers D := .inr (.inr ⟨_, hd', rfl⟩)
    exact ⟨D, rfl, by rw [hrel.block D hlt (.inr ⟨hm', hOD⟩)]; exact hD, hrel.o2 D hOD ⟨hm', hOD⟩, h0⟩
   ·rcases hrel.o1 g hg with h | h
    ·exact hs.oc g h hlt
    ·have := hs.ext.size; omega
  subst hd
  exact hK _ _ ⟨O', θ, h1.put _ _ _ (dOk_lt (s := s) hn) (dOk_kt (s := s) hn) (hr.mono (Nat.le_refl _) (fun _ _ hn => ⟨hn, rfl⟩) (fun _ _ h => by cases h))⟩
end
end Go.Abs

/- Steps that often come together. -/
namespace Go.Abs
variable {G : List (Nat × List PV)}
open Go.RowKit
def pickF {α : Type} (fr : List (Nat × Option α)) : List (Nat × Option α) → List (Nat × Option α)
 | [] => []
 | (t, none) :: l => (t, none) :: pickF fr l
 | (t, some _) :: l => (t, look t fr) :: pickF fr l
def renF (ρ : Nat → Nat) : List (Nat × Option AV) → List (Nat × Option AV)
 | [] => []
 | (t, none) :: l => (t, none) :: renF ρ l
 | (t, some x) :: l => (t, some (x.map ρ)) :: renF ρ l
def pickH (fr : List (Nat × Option Blk)) (ρ : Nat → Nat) : List (Nat × Option Blk) → List (Option Blk)
 | [] => []
 | (_, none) :: l => none :: pickH fr ρ l
 | (t, some _) :: l => look (ρ t) fr :: pickH fr ρ l
def renH (ρ : Nat → Nat) : List (Nat × Option Blk) → List (Option Blk)
 | [] => []
 | (_, none) :: l => none :: renH ρ l
 | (_, some x) :: l => some (x.map ρ) :: renH ρ l
theorem subF_of {fr : List (Nat × Option AV)} {ρ : Nat → Nat} : ∀ {l : List (Nat × Option AV)}, pickF fr l = renF ρ l → SubF fr ρ l
 | [], _ => trivial
 | (_, none) :: l, h => by simp only [pickF, renF, List.cons.injEq] at h; exact subF_of (l := l) h.2
 | (_, some _) :: l, h => by
  simp only [pickF, renF, List.cons.injEq, Prod.mk.injEq] at h
  exact ⟨h.1.2, subF_of (l := l) h.2⟩
theorem subH_of {fr : List (Nat × Option Blk)} {ρ : Nat → Nat} : ∀ {l : List (Nat × Option Blk)}, pickH fr ρ l = renH ρ l → SubH fr ρ l
 | [], _ => trivial
 | (_, none) :: l, h => by simp only [pickH, renH, List.cons.injEq] at h; exact subH_of (l := l) h.2
 | (_, some _) :: l, h => by
  simp only [pickH, renH, List.cons.injEq] at h
  exact ⟨h.1, subH_of (l := l) h.2⟩
section
variable {ro : Option Nat} {P : Program} {c : Cx G} {Q : Exit → Act → World → Prop} {s : St} {all : List Oper} {e : Exit}
theorem impz {s s' : St} (L : List Nat) (hF : pickF s.fr s'.fr = renF (fun i => L.getD i s.next) s'.fr := by kernel_rfl) (hH : pickH s.hp (fun i => L.getD i s.next) s'.hp = renH (fun i => L.getD i s.next) s'.hp := by kernel_rfl)
  (hn : s'.n = s.n := by exact rfl) (hnd : L.Nodup := by decide) (hnext : s'.next = L.length := by exact rfl) (hfree : s'.free = [] := by exact rfl)
  (hids : (s'.hp.all fun x => Nat.blt x.1 L.length) = true := by exact rfl) (hys : s'.ys = s.ys := by exact rfl) (hkt : s'.kt = s.kt := by exact rfl) : Imp c s s' := imp_sub L hn hnd hnext hfree (subF_of hF) (subH_of hH) hids hys hkt
theorem piz (s' : St) (L : List Nat) (h' : Post c Q e s') (hF : pickF s.fr s'.fr = renF (fun i => L.getD i s.next) s'.fr := by kernel_rfl) (hH : pickH s.hp (fun i => L.getD i s.next) s'.hp = renH (fun i => L.getD i s.next) s'.hp := by kernel_rfl)
  (hn : s'.n = s.n := by exact rfl) (hnd : L.Nodup := by decide) (hnext : s'.next = L.length := by exact rfl) (hfree : s'.free = [] := by exact rfl)
  (hids : (s'.hp.all fun x => Nat.blt x.1 L.length) = true := by exact rfl) (hys : s'.ys = s.ys := by exact rfl) (hkt : s'.kt = s.kt := by exact rfl) : Post c Q e s := post_imp (imp_sub L hn hnd hnext hfree (subF_of hF) (subH_of hH) hids hys hkt) h'
class FldI (P : Program) (T f : Nat) (off : outParam Nat) : Prop where
 h : fieldB P T f off = true
class OneI (P : Program) (T : Nat) : Prop where
 h : oneB P T = true
class SlcI (P : Program) (T : Nat) (e sz : outParam Nat) : Prop where
 h : sliceB P T e sz = true
class AggI (P : Program) (T : Nat) (n : outParam Nat) : Prop where
 h : aggB P T n = true
 h0 : oneB P T = false
section
variable {rest : List Oper} {o : Oper} {s' : St} {d : Option Nat}
theorem gf_lp {T f off : Nat} {x : Operand} {id k : Nat} [F : FldI P T f off] (ho : o.op = .fieldAddr T x f) (hx : ev s x = some (.lp id k)) (hd : o.dst = d) (hn : dOk s d = true) : OpOk ro P c o s (s.put d (some (.lp id (k + off)))) := op_field_lp ho hx F.h hd hn
theorem gf_vp {T f off : Nat} {x : Operand} {row : List PV} [F : FldI P T f off] (ho : o.op = .fieldAddr T x f) (hx : ev s x = some (.pv (.vp row))) (hd : o.dst = d) (hn : dOk s d = true) : OpOk ro P c o s (s.put d (some (.pv (.vp (row.drop off))))) := op_field_vp ho hx F.h hd hn
theorem gl_lp {T : Nat} {x : Operand} {id k : Nat} {t : TypeId} {cells : List AV} {v : AV} [F : OneI P T] (ho : o.op = .load T x) (hx : ev s x = some (.lp id k)) (hb : look id s.hp = some (.box t cells)) (hc : cells[k]? = some v) (hd : o.dst = d) (hn : dOk s d = true) : OpOk ro P c o s (s.put d (some v)) := op_load_lp ho hx hb hc F.h hd hn
theorem gl_vp {T : Nat} {x : Operand} {row : List PV} {p : PV} [F : OneI P T] (ho : o.op = .load T x) (hx : ev s x = some (.pv (.vp row))) (hp : row[0]? = some p) (hd : o.dst = d) (hn : dOk s d = true) : OpOk ro P c o s (s.put d (some (.pv p))) := op_load_vp ho hx hp F.h hd hn
theorem gs_one {T : Nat} {x y : Operand} {id k : Nat} {t : TypeId} {cells : List AV} {v : AV} [F : OneI P T] (ho : o.op = .store T x y) (hx : ev s x = some (.lp id k)) (hy : ev s y = some v) (hc : v.cellish = true) (hb : look id s.hp = some (.box t cells)) (hn1 : v.cells.length = 1) (hfit : Nat.ble (k + v.cells.length) cells.length = true) (hd : o.dst = d) (hk : ktB s d = true) :
  OpOk ro P c o s ((s.setBlk id (some (.box t (splice cells k v.cells)))).put d none) := op_store_lp (n := 1) ho hx hy hc hb (or_one F.h) (by rw [F.h]; exact hn1) hfit hd hk
theorem gs_agg {T n : Nat} {x y : Operand} {id k : Nat} {t : TypeId} {cells : List AV} {v : AV} [F : AggI P T n] (ho : o.op = .store T x y) (hx : ev s x = some (.lp id k)) (hy : ev s y = some v) (hc : v.cellish = true) (hb : look id s.hp = some (.box t cells)) (hn1 : v.cells.length = n) (hfit : Nat.ble (k + v.cells.length) cells.length = true) (hd : o.dst = d) (hk : ktB s d = true) :
  OpOk ro P c o s ((s.setBlk id (some (.box t (splice cells k v.cells)))).put d none) := op_store_lp (n := n) ho hx hy hc hb (or_agg F.h) (by rw [F.h0]; exact hn1) hfit hd hk
theorem glen {α : Type} {f : α → List PV} {l : List α} {T e sz sz' : Nat} {x : Operand} [F : SlcI P T e sz'] (ho : o.op = .call { callee := .builtin .len, args := #[x], argTypes := #[T] }) (hx : ev s x = some (.pv (.vs sz (l.map f)))) (hd : o.dst = d) (hn : dOk s d = true) : OpOk ro P c o s (s.put d (some (.pv (.int .i64 l.length)))) := op_len_vs (n := l.length) ho hx (List.length_map ..) F.h hd hn
theorem gp (h : RegW ro P c all rest Q s') (ho : OpOk ro P c o s s' := by first
 | exact gf_lp rfl rfl rfl rfl
 | exact gl_lp rfl rfl rfl rfl rfl rfl
 | exact op_int rfl rfl rfl rfl rfl rfl
 | exact gs_one rfl rfl rfl rfl rfl rfl rfl rfl rfl
 | exact gs_agg rfl rfl rfl rfl rfl rfl rfl rfl rfl
 | exact gl_vp rfl rfl rfl rfl rfl
 | exact glen rfl rfl rfl rfl
 | exact gf_vp rfl rfl rfl rfl
 | exact op_not rfl rfl rfl rfl) (hg : o.guard = none := by exact rfl) : RegW ro P c all (o :: rest) Q s := reg_cons (guard_no hg) ho h
theorem gn {j d : Nat} {want t : Bool} (ht : t = want) (h : RegW ro P c all rest Q s') (ho : OpOk ro P c o s s' := by first
 | exact gf_lp rfl rfl rfl rfl
 | exact gl_lp rfl rfl rfl rfl rfl rfl
 | exact op_int rfl rfl rfl rfl rfl rfl
 | exact gs_one rfl rfl rfl rfl rfl rfl rfl rfl rfl
 | exact gs_agg rfl rfl rfl rfl rfl rfl rfl rfl rfl
 | exact gl_vp rfl rfl rfl rfl rfl
 | exact glen rfl rfl rfl rfl
 | exact gf_vp rfl rfl rfl rfl
 | exact op_not rfl rfl rfl rfl
 | exact op_move rfl rfl rfl rfl
 | exact op_assign rfl rfl rfl rfl) (hg : o.guard = some (j, want) := by exact rfl) (hj : ((all[j]?).bind (·.dst)) = some d := by exact rfl) (hn : Nat.blt d s.n = true := by exact rfl) (hl : look d s.fr = some (.pv (.bool t)) := by exact rfl) : RegW ro P c all (o :: rest) Q s :=
 reg_cons (guard_on hg hj hn hl ht) ho h
end
section
variable {rest : List Oper} {o : Oper} {s' : St} {d : Option Nat}
def czc : Value → PV → Option PV
 | .slice none 0 0, .vs n [] => some (.vs n [])
 | v, _ => cv v
def czl : List Value → List PV → Option (List PV)
 | [], [] => some []
 | v :: vs, p :: ps => match czc v p, czl vs ps with
  | some q, some qs => some (q :: qs)
  | _, _ => none
 | _, _ => none
theorem cz_of {v : Value} {p q : PV} (h : czc v p = some q) (e : q = p) : cz v p := by
 subst e
 unfold czc at h
 split at h
 ·trivial
 ·unfold cz; split
  ·trivial
  ·exact h
theorem czs_of : ∀ {vs : List Value} {ps : List PV}, czl vs ps = some ps → czs vs ps
 | [], [], _ => trivial
 | [], _ :: _, h => by simp [czl] at h
 | _ :: _, [], h => by simp [czl] at h
 | v :: vs, p :: ps, h => by
  simp only [czl] at h
  split at h
  ·rename_i q qs h1 h2
   cases h
   exact ⟨cz_of h1 rfl, czs_of h2⟩
  ·cases h
theorem al (kk : Nat) {T : Nat} {z : Value} (ps : List PV) (hz : zeroIs P T z) (hk : freshB s kk = true := by exact rfl) (ho : o.op = .alloc T := by exact rfl) (hp : czl z.cells.toList ps = some ps := by kernel_rfl) (hd : o.dst = d := by exact rfl) (hn : dOk s d = true := by exact rfl) :
  OpOk ro P c o s ((s.addAt kk none (.box T (ps.map .pv))).put d (some (.lp kk 0))) := op_alloc kk hk ho hz (czs_of hp) hd hn
theorem bd {T : Nat} {parts : List (Nat × Operand)} {place : List (Nat × Nat)} {z : Value} (zs r : List PV) {xs : List (Nat × AV)} (hz : zeroIs P T z) (hpl : placesB P T place = true) (ho : o.op = .build T parts.toArray := by exact rfl) (hzs : czl z.cells.toList zs = some zs := by kernel_rfl)
  (hx : evs s parts = some xs := by exact rfl) (hr : fillPV place zs xs = some r := by exact rfl) (hd : o.dst = d := by exact rfl) (hn : dOk s d = true := by exact rfl) : OpOk ro P c o s (s.put d (some (.pv (.agg r)))) := op_build ho hz (czs_of hzs) hpl hx hr hd hn
theorem la {T n : Nat} {x : Operand} {id k : Nat} {t : TypeId} {cells : List AV} (ps : List PV) (ht : aggB P T n = true) (ho : o.op = .load T x := by exact rfl) (hx : ev s x = some (.lp id k) := by exact rfl) (hb : look id s.hp = some (.box t cells) := by exact rfl)
  (hc : pvs ((cells.drop k).take n) = some ps := by exact rfl) (hl : ps.length = n := by exact rfl) (h1c : (ps.all PV.one) = true := by exact rfl) (hd : o.dst = d := by exact rfl) (hn : dOk s d = true := by exact rfl) : OpOk ro P c o s (s.put d (some (.pv (.agg ps)))) := op_load_lp_agg ho hx hb hc hl h1c ht hd hn
theorem lw {T n : Nat} {x : Operand} {row : List PV} (ps : List PV) (ht : aggB P T n = true) (ho : o.op = .load T x := by exact rfl) (hx : ev s x = some (.pv (.vp row)) := by exact rfl) (hp : row.take n = ps := by exact rfl) (hl : ps.length = n := by exact rfl) (hd : o.dst = d := by exact rfl) (hn : dOk s d = true := by exact rfl) :
  OpOk ro P c o s (s.put d (some (.pv (.agg ps)))) := op_load_vp_agg ho hx hp hl ht hd hn
theorem ix {T e sz : Nat} {x y : Operand} {k : IntKind} {n : Int} {rows : List (List PV)} {row : List PV} (hr : idx rows n = some row) (ht : sliceB P T e sz = true) (ho : o.op = .indexAddr T x y := by exact rfl) (hx : ev s x = some (.pv (.vs sz rows)) := by exact rfl) (hy : ev s y = some (.pv (.int k n)) := by exact rfl)
  (hd : o.dst = d := by exact rfl) (hn : dOk s d = true := by exact rfl) : OpOk ro P c o s (s.put d (some (.pv (.vp row)))) := op_index_vs ho hx hy hr ht hd hn
theorem bo (kk : Nat) {T : Nat} {x : Operand} {v : AV} (hk : freshB s kk = true := by exact rfl) (ho : o.op = .box T x := by exact rfl) (hx : ev s x = some v := by exact rfl) (hc : v.cellish = true := by exact rfl) (hd : o.dst = d := by exact rfl) (hn : dOk s d = true := by exact rfl) :
  OpOk ro P c o s ((s.addAt kk none (.box T v.cells)).put d (some (.lp kk 0))) := op_box kk hk ho hx hc hd hn
theorem cl (kk : Nat) {fo : Operand} {xs : List Operand} {ts : Array TypeId} {f : Nat} (args : List PV) (rs : List Res) {ob : Option Blk} (h : Fn G P f (args ++ []) rs) (hB : callB P f = true := by kernel_rfl) (hk : freshB s kk = true := by exact rfl) (ho : o.op = .call { callee := .value fo, args := xs.toArray, argTypes := ts } := by exact rfl) (hf : ev s fo = some (.pv (.fn f [])) := by exact rfl) (hx : evl s xs = some (args.map .pv) := by exact rfl)
  (hob : oneOwn rs = some ob := by exact rfl) (hd : o.dst = d := by exact rfl) (hn : dOk s d = true := by exact rfl) : OpOk ro P c o s ((s.addRes kk ob).put d (some (resTop kk rs))) := op_call kk hk (caps := []) ho hf hx hB h hob hd hn
theorem cnd {β : Type} {b : Bool} {X Y : Option β} {r : β} {x y : Code} {t : Operand} (hF : (if b = true then X else Y) = some r) (h1 : b = true → X = some r → AW ro P c x Q s) (h2 : b = false → Y = some r → AW ro P c y Q s) (ht : ev s t = some (.pv (.bool b)) := by exact rfl) : AW ro P c (.cond t x y) Q s := by
 rcases ite_some hF with ⟨h3, h4⟩ | ⟨h3, h4⟩
 ·exact aw_cond_t ht h3 (h1 h3 h4)
 ·exact aw_cond_f ht h3 (h2 h3 h4)
theorem bs {α β : Type} {x : Option α} {k : α → Option β} {r : β} (h : x.bind k = some r) : ∃ y, x = some y ∧ k y = some r := bind_some h
theorem ie {β : Type} {b : Bool} {x y : Option β} {r : β} (h : (if b = true then x else y) = some r) : (b = true ∧ x = some r) ∨ (b = false ∧ y = some r) := ite_some h
theorem pcz {s1 : St} (L : List Nat) (hF : pickF s.fr s1.fr = renF (fun i => L.getD i s.next) s1.fr := by kernel_rfl) (hH : pickH s.hp (fun i => L.getD i s.next) s1.hp = renH (fun i => L.getD i s.next) s1.hp := by kernel_rfl)
  (hn : s1.n = s.n := by exact rfl) (hnd : L.Nodup := by decide) (hnext : s1.next = L.length := by exact rfl) (hfree : s1.free = [] := by exact rfl)
  (hids : (s1.hp.all fun x => Nat.blt x.1 L.length) = true := by exact rfl) (hys : s1.ys = s.ys := by exact rfl) (hkt : s1.kt = s.kt := by exact rfl) : Post c (Cut c Q (fun s' => s' = s1)) .normal s := post_cut s1 rfl (imp_sub L hn hnd hnext hfree (subF_of hF) (subH_of hH) hids hys hkt)
theorem rcz {all : List Oper} {s1 : St} (L : List Nat) (hF : pickF s.fr s1.fr = renF (fun i => L.getD i s.next) s1.fr := by kernel_rfl) (hH : pickH s.hp (fun i => L.getD i s.next) s1.hp = renH (fun i => L.getD i s.next) s1.hp := by kernel_rfl)
  (hn : s1.n = s.n := by exact rfl) (hnd : L.Nodup := by decide) (hnext : s1.next = L.length := by exact rfl) (hfree : s1.free = [] := by exact rfl)
  (hids : (s1.hp.all fun x => Nat.blt x.1 L.length) = true := by exact rfl) (hys : s1.ys = s.ys := by exact rfl) (hkt : s1.kt = s.kt := by exact rfl) : RegW ro P c all [] (Cut c Q (fun s' => s' = s1)) s := reg_nil (post_cut s1 rfl (imp_sub L hn hnd hnext hfree (subF_of hF) (subH_of hH) hids hys hkt))
theorem ctx {k : Code} (s1 : St) (h : AW ro P c k (Cut c Q (fun s' => s' = s1)) s) (h2 : Post c Q .normal s1) : AW ro P c k Q s := aw_cut _ h (fun _ e => e ▸ h2)
theorem rnr {all : List Oper} {x : Code} {m : Nat} (h : RndW ro P c x Q m s) : RegW ro P c all [] (Exit.then (Code.roundsIn (FF ro) 0 P x Q m) Q) s := reg_nil (post_round h)
abbrev sX (n : Nat) (fr : List (Nat × Option AV)) (hp : List (Nat × Option Blk)) (k : Nat) : St := ⟨n, fr, hp, k, [], [], 0, []⟩
abbrev pf (t : Nat) (p : PV) : Nat × Option AV := (t, some (.pv p))
abbrev bf (t T : Nat) (l : List PV) : Nat × Option Blk := (t, some (.box T (bxv l)))
end
section
variable {id n next ys : Nat} {kt : List Nat} {df : List Deferred} {l rest : List Oper} {o : Oper} {m0 m : Mid} {es : List Eff}
theorem dfl {t d T f off i k : Nat} [F : FldI P T f off] (h : DrW ro P c Q s id l n df next ys kt m0 ({ need := [(t, .lp i k)], dst := some d, val := some (.lp i (k + off)) } :: es) rest (({ need := [(t, .lp i k)], dst := some d, val := some (.lp i (k + off)) } : Eff).apply m))
  (hg : o.guard = none := by exact rfl) (ho : o.op = .fieldAddr T (.tmp t) f := by exact rfl) (hd : o.dst = some d := by exact rfl) (hl : look t m.fr = some (.lp i k) := by exact rfl) (hk : dOk (m.st n df next ys kt) (some d) = true := by exact rfl) : DrW ro P c Q s id l n df next ys kt m0 es (o :: rest) m :=
 dr_cons { need := [(t, .lp i k)], dst := some d, val := some (.lp i (k + off)) } (fun _ h => step_on (guard_no hg) (op_field_lp ho h.1.1 F.h hd hk) rfl) ⟨⟨hl, trivial⟩, trivial, trivial⟩ h
theorem dfg {t d T f off i k j dg : Nat} {want b : Bool} [F : FldI P T f off] (hb : b = want) (h : DrW ro P c Q s id l n df next ys kt m0 ({ need := [(dg, .pv (.bool b)), (t, .lp i k)], dst := some d, val := some (.lp i (k + off)) } :: es) rest (({ need := [(dg, .pv (.bool b)), (t, .lp i k)], dst := some d, val := some (.lp i (k + off)) } : Eff).apply m))
  (hg : o.guard = some (j, want) := by exact rfl) (hj : ((l[j]?).bind (·.dst)) = some dg := by exact rfl) (hn : Nat.blt dg n = true := by exact rfl) (hgl : look dg m.fr = some (.pv (.bool b)) := by exact rfl) (ho : o.op = .fieldAddr T (.tmp t) f := by exact rfl) (hd : o.dst = some d := by exact rfl) (hl : look t m.fr = some (.lp i k) := by exact rfl) (hk : dOk (m.st n df next ys kt) (some d) = true := by exact rfl) : DrW ro P c Q s id l n df next ys kt m0 es (o :: rest) m :=
 dr_cons { need := [(dg, .pv (.bool b)), (t, .lp i k)], dst := some d, val := some (.lp i (k + off)) } (fun _ h => step_on (guard_on hg hj hn h.1.1 hb) (op_field_lp ho h.1.2.1 F.h hd hk) rfl) ⟨⟨hgl, hl, trivial⟩, trivial, trivial⟩ h
theorem dld {t d T i k tt : Nat} {cells : List AV} {v : AV} [F : OneI P T] (h : DrW ro P c Q s id l n df next ys kt m0 ({ need := [(t, .lp i k)], hneed := [(i, .box tt cells)], dst := some d, val := some v } :: es) rest (({ need := [(t, .lp i k)], hneed := [(i, .box tt cells)], dst := some d, val := some v } : Eff).apply m))
  (hg : o.guard = none := by exact rfl) (ho : o.op = .load T (.tmp t) := by exact rfl) (hd : o.dst = some d := by exact rfl) (hl : look t m.fr = some (.lp i k) := by exact rfl) (hh : look i m.hp = some (.box tt cells) := by exact rfl) (hc : cells[k]? = some v := by exact rfl) (hk : dOk (m.st n df next ys kt) (some d) = true := by exact rfl) : DrW ro P c Q s id l n df next ys kt m0 es (o :: rest) m :=
 dr_cons { need := [(t, .lp i k)], hneed := [(i, .box tt cells)], dst := some d, val := some v } (fun _ h => step_on (guard_no hg) (op_load_lp ho h.1.1 h.2.1.1 hc F.h hd hk) rfl) ⟨⟨hl, trivial⟩, ⟨hh, trivial⟩, trivial⟩ h
theorem dlg {t d T i k tt j dg : Nat} {want b : Bool} {cells : List AV} {v : AV} [F : OneI P T] (hb : b = want) (h : DrW ro P c Q s id l n df next ys kt m0 ({ need := [(dg, .pv (.bool b)), (t, .lp i k)], hneed := [(i, .box tt cells)], dst := some d, val := some v } :: es) rest (({ need := [(dg, .pv (.bool b)), (t, .lp i k)], hneed := [(i, .box tt cells)], dst := some d, val := some v } : Eff).apply m))
  (hg : o.guard = some (j, want) := by exact rfl) (hj : ((l[j]?).bind (·.dst)) = some dg := by exact rfl) (hn : Nat.blt dg n = true := by exact rfl) (hgl : look dg m.fr = some (.pv (.bool b)) := by exact rfl) (ho : o.op = .load T (.tmp t) := by exact rfl) (hd : o.dst = some d := by exact rfl) (hl : look t m.fr = some (.lp i k) := by exact rfl) (hh : look i m.hp = some (.box tt cells) := by exact rfl) (hc : cells[k]? = some v := by exact rfl) (hk : dOk (m.st n df next ys kt) (some d) = true := by exact rfl) : DrW ro P c Q s id l n df next ys kt m0 es (o :: rest) m :=
 dr_cons { need := [(dg, .pv (.bool b)), (t, .lp i k)], hneed := [(i, .box tt cells)], dst := some d, val := some v } (fun _ h => step_on (guard_on hg hj hn h.1.1 hb) (op_load_lp ho h.1.2.1 h.2.1.1 hc F.h hd hk) rfl) ⟨⟨hgl, hl, trivial⟩, ⟨hh, trivial⟩, trivial⟩ h
theorem dia {t d T T' : Nat} {op : BinOp} {k : IntKind} {a b : Int} {r : PV} {y : Value} (h : DrW ro P c Q s id l n df next ys kt m0 ({ need := [(t, .pv (.int k a))], dst := some d, val := some (.pv r) } :: es) rest (({ need := [(t, .pv (.int k a))], dst := some d, val := some (.pv r) } : Eff).apply m))
  (hg : o.guard = none := by exact rfl) (ho : o.op = .binOp op T (.tmp t) (.const y) T' := by exact rfl) (hd : o.dst = some d := by exact rfl) (hl : look t m.fr = some (.pv (.int k a)) := by exact rfl) (hy : cv y = some (.int k b) := by exact rfl) (hr : intOp op k a b = some r := by exact rfl) (hk : dOk (m.st n df next ys kt) (some d) = true := by exact rfl) : DrW ro P c Q s id l n df next ys kt m0 es (o :: rest) m :=
 dr_cons { need := [(t, .pv (.int k a))], dst := some d, val := some (.pv r) } (fun _ h => step_on (guard_no hg) (op_int ho h.1.1 (show ev _ (.const y) = _ by simp only [ev, hy, Option.map_some]) hr hd hk) rfl) ⟨⟨hl, trivial⟩, trivial, trivial⟩ h
theorem dig {t d T T' j dg : Nat} {want z : Bool} {op : BinOp} {k : IntKind} {a b : Int} {r : PV} {y : Value} (hb : z = want) (h : DrW ro P c Q s id l n df next ys kt m0 ({ need := [(dg, .pv (.bool z)), (t, .pv (.int k a))], dst := some d, val := some (.pv r) } :: es) rest (({ need := [(dg, .pv (.bool z)), (t, .pv (.int k a))], dst := some d, val := some (.pv r) } : Eff).apply m))
  (hg : o.guard = some (j, want) := by exact rfl) (hj : ((l[j]?).bind (·.dst)) = some dg := by exact rfl) (hn : Nat.blt dg n = true := by exact rfl) (hgl : look dg m.fr = some (.pv (.bool z)) := by exact rfl) (ho : o.op = .binOp op T (.tmp t) (.const y) T' := by exact rfl) (hd : o.dst = some d := by exact rfl) (hl : look t m.fr = some (.pv (.int k a)) := by exact rfl) (hy : cv y = some (.int k b) := by exact rfl) (hr : intOp op k a b = some r := by exact rfl) (hk : dOk (m.st n df next ys kt) (some d) = true := by exact rfl) : DrW ro P c Q s id l n df next ys kt m0 es (o :: rest) m :=
 dr_cons { need := [(dg, .pv (.bool z)), (t, .pv (.int k a))], dst := some d, val := some (.pv r) } (fun _ h => step_on (guard_on hg hj hn h.1.1 hb) (op_int ho h.1.2.1 (show ev _ (.const y) = _ by simp only [ev, hy, Option.map_some]) hr hd hk) rfl) ⟨⟨hgl, hl, trivial⟩, trivial, trivial⟩ h
theorem dgo {g g' : Prop} (h' : g') (h : g' → g := by first
 | exact fun h => drm h
 | exact fun h => dfl h
 | exact fun h => dld h
 | exact fun h => dia h
 | exact fun h => dru h) : g := h h'
theorem dgn {b want : Bool} {g g' : Prop} (hb : b = want) (h' : g') (h : b = want → g' → g := by first
 | exact fun hb h => dfg hb h
 | exact fun hb h => dlg hb h
 | exact fun hb h => dig hb h) : g := h hb h'
end
theorem go {g g' : Prop} (h' : g') (h : g' → g := by first
 | ((with_reducible refine (?_ : _ → RegW _ _ _ _ _ _ _)); first
  | exact fun h => rmv h
  | exact fun h => gp h
  | exact fun h => ras h
  | exact fun h => reg_nil (post_next h)
  | exact fun h => rgu h)
 | ((with_reducible refine (?_ : _ → AW _ _ _ _ _ _)); first
  | with_reducible exact fun h => aw_seq (aw_region h)
  | with_reducible exact fun h => aw_seq h
  | with_reducible exact fun h => aw_region h
  | with_reducible exact fun h => aw_skip h
  | with_reducible exact fun h => aw_ret h
  | with_reducible exact fun h => aw_block h)
 | ((with_reducible refine (?_ : _ → Post _ _ _ _)); first
  | with_reducible exact fun h => post_next h
  | with_reducible exact fun h => post_block_normal h
  | with_reducible exact fun h => post_then_ret h
  | with_reducible exact fun h => post_block_ret h)) : g := h h'
end
end Go.Abs

/- Maps whose keys are pairs of numbers; entries that await their value. -/
namespace Go.Abs
variable {G : List (Nat × List PV)}
open Go.RowKit
def kb2 (a b : Int) : List UInt8 := keyBytes [.int .i64 a, .int .i64 b]
def in64 (n : Int) : Bool := decide (IntKind.i64.min ≤ n) && decide (n ≤ IntKind.i64.max)
theorem in64_wf {n : Int} (h : in64 n = true) : (Lit.int .i64 n).wf = true := h
def mapB2 (P : Program) (T k e E : Nat) : Bool :=
 (match P.underlying T with | some (.map k' e') => k' == k && e' == e | _ => false) && (match P.underlying e with | some (.int .i64) => true | _ => false) &&
 (match P.underlying k with | some (.array n E') => n == 2 && E' == E | _ => false) && (match P.underlying E with | some (.int .i64) => true | _ => false) &&
 P.cellsOf k == 2 && P.cellsOf E == 1 && P.keyType k && P.keyTypeAt 3 k && Nat.blt k P.types.size && laidOutB P
structure Map2 (P : Program) (T k e E : Nat) : Prop where
 m1 : P.underlying T = some (.map k e)
 m3 : P.underlying e = some (.int .i64)
 ka : P.underlying k = some (.array 2 E)
 kE : P.underlying E = some (.int .i64)
 ck : P.cellsOf k = 2
 cE : P.cellsOf E = 1
 kt : P.keyType k = true
 kt3 : P.keyTypeAt 3 k = true
 lt : k < P.types.size
 laid : laidOutB P = true
theorem mapB2_spec {P : Program} {T k e E : Nat} (h : mapB2 P T k e E = true) : Map2 P T k e E := by
 unfold mapB2 at h
 simp only [Bool.and_eq_true, beq_iff_eq] at h
 obtain ⟨⟨⟨⟨⟨⟨⟨⟨⟨h1, h2⟩, h3⟩, h4⟩, h5⟩, h6⟩, h7⟩, h8⟩, h9⟩, h10⟩ := h
 refine ⟨?_, ?_, ?_, ?_, h5, h6, h7, h8, by simpa [Nat.blt_eq] using h9, h10⟩
 ·split at h1
  ·rename_i e1; simp at h1; obtain ⟨rfl, rfl⟩ := h1; exact e1
  ·cases h1
 ·split at h2
  ·rename_i e1; exact e1
  ·cases h2
 ·split at h3
  ·rename_i e1; simp at h3; obtain ⟨rfl, rfl⟩ := h3; exact e1
  ·cases h3
 ·split at h4
  ·rename_i e1; exact e1
  ·cases h4
theorem Map2.law {P : Program} {T k e E : Nat} (h : Map2 P T k e E) : WideMaps.KeyLaw P k := deep_law_laid h.laid (m := 3) (by decide) h.lt h.kt3 (by rw [h.ka])
theorem Map2.key {P : Program} {T k e E : Nat} (h : Map2 P T k e E) {a b : Int} (ha : in64 a = true) (hb : in64 b = true) : keyOf P k (.agg #[.int .i64 a, .int .i64 b]) = some (.string (kb2 a b)) := by
 have hsz : ∃ d, P.types.size = d + 1 := ⟨P.types.size - 1, by have := h.lt; omega⟩
 obtain ⟨d, hd⟩ := hsz
 unfold keyOf
 rw [h.ka]
 have hf : (Value.agg #[.int .i64 a, .int .i64 b]).formed P k = true := by
  unfold Value.formed; rw [h.ka]; simp [h.ck]
 have h1 : ∀ n : Int, in64 n = true → P.keyLits (d + 1) E [.int .i64 n] = some [.int .i64 n] := by
  intro n hn
  unfold Program.keyLits
  rw [h.kE]
  simp [in64_wf hn]
 have h2 : P.keyLits (d + 1 + 1) k [.int .i64 a, .int .i64 b] = some [.int .i64 a, .int .i64 b] := by
  have e1 := h1 a ha
  have e2 := h1 b hb
  generalize hd1 : d + 1 = d1 at e1 e2
  unfold Program.keyLits
  rw [h.ka]
  simp [h.ck, h.cE, List.range_succ, e1, e2]
 simp only [h.kt, hf, Bool.and_self, if_true]
 rw [hd]
 show Option.map _ (P.keyLits (d + 1 + 1) k [.int .i64 a, .int .i64 b]) = _
 rw [h2]; rfl
theorem entry_mid {P : Program} {w : World} {t k e : TypeId} {b : Nat} {es : Array MapEntry} {clock : Nat} (K : WideMaps.KeyLaw P k) (ht : P.underlying t = some (.map k e)) (me : P.underlying e = some (.int .i64)) (hz : ∀ u : World, (zeroValue e).run P u = .ok (.int .i64 0) u) (hb : w.heap[b]? = some (.map es clock)) (F : WideElems.Fit P k (plainElem (H := Unit) P e) es clock)
  {key : Value} {kl : Lit} (hkey : keyOf P k key = some kl) :
  ∃ (v0 : Value) (st : Nat) (es1 : Array MapEntry) (clock1 : Nat) (x0 : Int), (Instr.mapEntry t (.map (some b)) key).run P w = .ok (.tuple #[v0, goInt st]) (ChangeMaps.setBlock w b (.map es1 clock1)) ∧
   (Instr.mapUpdate t (.map (some b)) key (.int .i64 x0)).run P w = .ok () (ChangeMaps.setBlock w b (.map es1 clock1)) ∧ (Instr.lookup t (.map (some b)) key false).run P w = .ok (.int .i64 x0) w ∧ in64 x0 = true := by
 rcases K.find w hkey es.toList F.keys with ⟨h1, h2⟩ | ⟨j, e0, h1, h2, h3⟩
 ·refine ⟨.int .i64 0, clock, es.push ⟨key, .int .i64 0, clock⟩, clock + 1, 0, ?_, ?_, ?_, by decide⟩
  ·simp [Instr.mapEntry, run_underlying ht, MapKept.run_getObj_map hb, K.check w false hkey, h1, hz, MapKept.run_setObj_map _ hb, Result.andThen, ChangeMaps.setBlock]
  ·simp [Instr.mapUpdate, run_underlying ht, MapKept.run_getObj_map hb, K.check w false hkey, h1, MapKept.run_setObj_map _ hb, Result.andThen, ChangeMaps.setBlock]
  ·simp [Instr.lookup, run_underlying ht, MapKept.run_getObj_map hb, K.check w es.isEmpty hkey, h1, hz, Result.andThen]
 ·have hj : es[j]? = some e0 := by simpa using h2
  obtain ⟨y, hy⟩ := F.reads e0 (List.mem_of_getElem? h2)
  obtain ⟨z, hz1, _⟩ := WideElems.rd_val hy
  obtain ⟨d0, p0⟩ := z
  obtain ⟨x0, hx0, _, hx1⟩ := plainElem_int_inv me hz1
  have hset : ∀ (l : List MapEntry) (i : Nat) (a : MapEntry), l[i]? = some a → l.set i a = l := fun l i a h => by
   apply List.ext_getElem?
   intro n
   rw [List.getElem?_set]
   split
   ·rename_i e; subst e
    split
    ·exact h.symm
    ·rename_i hn; rw [List.getElem?_eq_none (by omega)] at h; cases h
   ·rfl
  have hsame : es.modify j (fun e => { e with key := key }) = es := by
   apply Array.ext'
   rw [Array.toList_modify]
   apply List.ext_getElem?
   intro n
   rw [List.getElem?_modify]
   split
   ·rename_i e; subst e; rw [h2]; simp [← h3]
   ·simp
  have hsame2 : es.modify j (fun e => { e with key := key, val := .int .i64 x0 }) = es := by
   apply Array.ext'
   rw [Array.toList_modify]
   apply List.ext_getElem?
   intro n
   rw [List.getElem?_modify]
   split
   ·rename_i e; subst e; rw [h2]; simp [← h3, ← hx0]
   ·simp
  refine ⟨e0.val, e0.born, es, clock, x0, ?_, ?_, ?_, ?_⟩
  ·simp [Instr.mapEntry, run_underlying ht, MapKept.run_getObj_map hb, K.check w false hkey, h1, hj, h3, K.stays w hkey, hsame, MapKept.run_setObj_map _ hb, Result.andThen, ChangeMaps.setBlock]
  ·simp [Instr.mapUpdate, run_underlying ht, MapKept.run_getObj_map hb, K.check w false hkey, h1, hj, h3, K.stays w hkey, hsame2, MapKept.run_setObj_map _ hb, Result.andThen, ChangeMaps.setBlock]
  ·simp [Instr.lookup, run_underlying ht, MapKept.run_getObj_map hb, K.check w es.isEmpty hkey, h1, hx0, Result.andThen]
  ·exact hx1
theorem SimAt.name {c : Cx G} {s : St} {O : Nat → Prop} {θ : Nat → Option Value} {a : Act} {w : World} (h : SimAt c s O θ a w) (k : Nat) (hk : freshB s k = true) {v : Value} (hv : blkOf v = none) (hone : v.oneCell' = true) :
  SimAt c { s with next := bif Nat.beq k s.next then k + 1 else s.next, free := s.free.filter fun x => !([k].elem x) } O (fun i => if i = k then some v else θ i) a w ∧ (∀ i u, θ i = some u → (if i = k then some v else θ i) = some u) := by
 have hkne : ∀ i u, θ i = some u → i ≠ k := by
  intro i u hi e
  subst e
  have h1 := h.dom i u hi
  simp only [freshB, Bool.or_eq_true, List.elem_eq_mem, decide_eq_true_eq] at hk
  rcases hk with hk | hk
  ·have := Nat.eq_of_beq_eq_true hk; omega
  ·exact h1.2 hk
 have hθ : ∀ i u, θ i = some u → (if i = k then some v else θ i) = some u := by
  intro i u hi
  rw [if_neg (hkne i u hi)]; exact hi
 have hback : ∀ i u, (if i = k then some v else θ i) = some u → (i = k ∧ u = v) ∨ θ i = some u := by
  intro i u hi
  split at hi
  ·rename_i e; cases hi; exact .inl ⟨e, rfl⟩
  ·exact .inr hi
 have hm : ∀ b, b < w.heap.size → ¬ O b → ¬ O b ∧ w.heap[b]? = w.heap[b]? := fun b _ hn => ⟨hn, rfl⟩
 refine ⟨⟨h.size, h.df, fun t x hx => (h.fr t x hx).mono (Nat.le_refl _) hm hθ, fun id b hb => ?_, fun i j bi bj vi vj g hi hj hvi hvj hgi hgj => ?_, fun id u hu => ?_, fun x hx => ?_, fun id u hu => ?_, h.olt, h.ext, h.xo, h.xlt, h.llt, h.marks, h.oc, h.kp, ?_⟩, hθ⟩
 ·obtain ⟨u, hu, hbo, hg⟩ := h.hp id b hb
  exact ⟨u, hθ _ _ hu, hbo.mono (Nat.le_refl _) hm hθ (fun _ _ => rfl), hg⟩
 ·rcases hback i vi hvi with ⟨_, rfl⟩ | h1
  ·rw [hv] at hgi; cases hgi
  ·rcases hback j vj hvj with ⟨_, rfl⟩ | h2
   ·rw [hv] at hgj; cases hgj
   ·exact h.inj i j bi bj vi vj g hi hj h1 h2 hgi hgj
 ·show id < (bif Nat.beq k s.next then k + 1 else s.next) ∧ id ∉ s.free.filter fun x => !([k].elem x)
  rcases hback id u hu with ⟨rfl, _⟩ | h1
  ·refine ⟨?_, by simp⟩
   cases hb : Nat.beq id s.next with
   | true => simp
   | false =>
    simp only [cond_false]
    simp only [freshB, hb, Bool.false_or, List.elem_eq_mem, decide_eq_true_eq] at hk
    exact h.flt id hk
  ·obtain ⟨d1, d2⟩ := h.dom id u h1
   refine ⟨?_, fun hm => d2 (List.mem_filter.1 hm).1⟩
   cases hb : Nat.beq k s.next with
   | true => have := Nat.eq_of_beq_eq_true hb; simp; omega
   | false => simpa using d1
 ·show x < (bif Nat.beq k s.next then k + 1 else s.next)
  have h1 := h.flt x (List.mem_filter.1 hx).1
  cases hb : Nat.beq k s.next with
  | true => have := Nat.eq_of_beq_eq_true hb; simp; omega
  | false => simpa using h1
 ·rcases hback id u hu with ⟨_, rfl⟩ | h1
  ·exact hone
  ·exact h.one id u h1
 ·refine c.Jst h.jn ⟨rfl, rfl, rfl, Nat.le_refl _, fun _ _ _ => rfl, fun g h => .inl h, fun g h _ => h, h.olt, fun g hI => .inl ?_⟩
  rcases hI with hI | ⟨id, b, u, h1, h2, h3⟩ | hI
  ·exact .inl hI
  ·rcases hback id u h2 with ⟨_, rfl⟩ | h4
   ·rw [hv] at h3; cases h3
   ·exact .inr (.inl ⟨id, b, u, h1, h4, h3⟩)
  ·exact .inr (.inr hI)
theorem SimAt.forget {c : Cx G} {s : St} {O : Nat → Prop} {θ : Nat → Option Value} {a : Act} {w : World} (h : SimAt c s O θ a w) (k : Nat) : SimAt c { s with hp := (k, none) :: s.hp } O θ a w := by
 have hl : ∀ id b, look id ((k, none) :: s.hp) = some b → look id s.hp = some b := by
  intro id b hb
  rw [look_cons] at hb
  split at hb
  ·cases hb
  ·exact hb
 refine ⟨h.size, h.df, h.fr, fun id b hb => h.hp id b (hl id b hb), fun i j bi bj vi vj g hi hj => h.inj i j bi bj vi vj g (hl i bi hi) (hl j bj hj), h.dom, h.flt, h.one, h.olt, h.ext, h.xo, h.xlt, h.llt, h.marks, h.oc, h.kp, ?_⟩
 refine c.Jst h.jn ⟨rfl, rfl, rfl, Nat.le_refl _, fun _ _ _ => rfl, fun g h => .inl h, fun g h _ => h, h.olt, fun g hI => .inl ?_⟩
 rcases hI with hI | ⟨id, b, u, h1, h2, h3⟩ | hI
 ·exact .inl hI
 ·exact .inr (.inl ⟨id, b, u, hl id b h1, h2, h3⟩)
 ·exact .inr (.inr hI)
def St.entry (s : St) (kk id : Nat) (b : Blk) : St := { s with hp := (id, some b) :: (kk, none) :: s.hp, next := bif Nat.beq kk s.next then kk + 1 else s.next, free := s.free.filter fun x => !([kk].elem x) }
def mget2 (m : List UInt8 → Option Int) (a b : Int) : Option Int := if in64 a && in64 b then some ((m (kb2 a b)).getD 0) else none
def ment (n : Nat) (a b : Int) : Option Unit := if (in64 a && in64 b) && Nat.blt n maxLen then some () else none
theorem ment_spec {n : Nat} {a b : Int} {u : Unit} (h : ment n a b = some u) : in64 a = true ∧ in64 b = true ∧ n < maxLen := by
 unfold ment at h
 split at h
 ·rename_i h1
  simp only [Bool.and_eq_true, Nat.blt_eq] at h1
  exact ⟨h1.1.1, h1.1.2, h1.2⟩
 ·cases h
def chk64 (v : Int) : Option Unit := if in64 v then some () else none
theorem chk64_spec {v : Int} {u : Unit} (h : chk64 v = some u) : in64 v = true := by
 unfold chk64 at h
 split at h
 ·assumption
 ·cases h
def mset2 (m : List UInt8 → Option Int) (key : List UInt8) (v : Int) : List UInt8 → Option Int := fun x => if x = key then some v else m x
section
variable {ro : Option Nat} {P : Program} {c : Cx G} {s : St} {o : Oper} {d : Option Nat}
theorem op_makeMap2 (kk : Nat) (hk : freshB s kk = true) {T k e E : Nat} (ho : o.op = .makeMap T none) (hm : mapB2 P T k e E = true) (hd : o.dst = d) (hn : dOk s d = true) :
  OpOk ro P c o s ((s.addAt kk none (.dict P T 0 (fun _ => none))).put d (some (.ls kk))) :=
 opOk_mem (s1 := s.addAt kk none (.dict P T 0 (fun _ => none))) hd hn (by rw [ho]; intro k h; cases h) fun a w O θ hs => by
  have M := mapB2_spec hm
  obtain ⟨O', θ', h3, h4, h5, h6⟩ := hs.addAt (w' := w.alloc (.map #[] 0)) (row := none) (v := .map (some w.heap.size)) (b := .dict P T 0 (fun _ => none)) kk hk none (by simp) (fun _ => rfl) (alloc_grown w _)
   (fun g hg => by simp [blkOf] at hg; subst hg; simp) rfl (fun O' θ' _ _ => ⟨w.heap.size, rfl, k, e, .map [], M.m1, M.law, M.m3, World.ownsMap_made w P k _, Maps.isMap_empty, fun key => ⟨rfl, rfl⟩⟩)
  refine ⟨_, _, O', θ', ?_, h6, .ls _ _ h5⟩
  simp [execOp, ho, run_makeMap]
theorem rd_pair {w : World} {O : Nat → Prop} {k k' : IntKind} {a b : Int} {v : Value} (h : Rd w O (.agg [.int k a, .int k' b]) v) : v = .agg #[.int k a, .int k' b] := by
 cases h with
 | agg cs us hn hone h =>
  have hs : us.size = 2 := hn
  have h0 := h 0 _ us[0] rfl (by simp)
  have h1 := h 1 _ us[1] rfl (by simp)
  congr 1
  apply Array.ext
  ·simp [hs]
  ·intro i hi hi2
   have : i = 0 ∨ i = 1 := by omega
   rcases this with rfl | rfl
   ·generalize us[0] = x at *; cases h0; rfl
   ·generalize us[1] = x at *; cases h1; rfl
theorem op_lookup2 {T k e E : Nat} {x y : Operand} {id n : Nat} {m : List UInt8 → Option Int} {a b r : Int} (ho : o.op = .lookup T x y false) (hx : ev s x = some (.ls id)) (hb : look id s.hp = some (.dict P T n m)) (hy : ev s y = some (.pv (.agg [.int .i64 a, .int .i64 b])))
  (hm : mapB2 P T k e E = true) (hz : zeroIs P e (.int .i64 0)) (hr : mget2 m a b = some r) (hd : o.dst = d) (hn : dOk s d = true) : OpOk ro P c o s (s.put d (some (.pv (.int .i64 r)))) :=
 opOk_value hd hn (by rw [ho]; intro k h; cases h) fun ac w O θ hs => by
  have M := mapB2_spec hm
  unfold mget2 at hr
  split at hr
  ·rename_i h2
   cases hr
   simp only [Bool.and_eq_true] at h2
   have h := ev_ok hs hx
   have e2 := rd_pair (ev_pv hs hy)
   generalize hv : ac.eval x = v at h
   cases h with
   | ls _ _ h =>
    obtain ⟨v', hv', ⟨bb, rfl, q⟩, _⟩ := hs.hp id _ hb
    rw [h] at hv'; cases hv'
    have h1 := (mapAt_look q M.m1 M.m3 hz (M.key h2.1 h2.2)).1
    exact ⟨_, by simp [execOp, ho, hv, e2, h1], .pv _ _ (.int _ _)⟩
  ·cases hr
theorem op_mapEntry2 (kk : Nat) (hk : freshB s kk = true) {T k e E : Nat} {x y : Operand} {id n : Nat} {m : List UInt8 → Option Int} {a b : Int} (ho : o.op = .mapEntry T x y) (hx : ev s x = some (.ls id)) (hb : look id s.hp = some (.dict P T n m)) (hy : ev s y = some (.pv (.agg [.int .i64 a, .int .i64 b])))
  (hm : mapB2 P T k e E = true) (hz : zeroIs P e (.int .i64 0)) (hment : in64 a = true ∧ in64 b = true ∧ n < maxLen) (hd : o.dst = d) (hn : dOk s d = true) :
  OpOk ro P c o s ((s.entry kk id (.dictE P T n m (kb2 a b) kk)).put d (some (.tup [.any, .ls kk]))) :=
 opOk_mem (s1 := s.entry kk id (.dictE P T n m (kb2 a b) kk)) hd hn (by rw [ho]; intro k h; cases h) fun ac w O θ hs => by
  obtain ⟨ha, hbb, hnm⟩ := hment
  have M := mapB2_spec hm
  have h := ev_ok hs hx
  have e2 := rd_pair (ev_pv hs hy)
  generalize hv : ac.eval x = v at h
  cases h with
  | ls _ _ h =>
   obtain ⟨v', hv', ⟨bb, rfl, q⟩, _⟩ := hs.hp id _ hb
   have hθ := hv'
   rw [h] at hv'; cases hv'
   have hkey := M.key ha hbb
   have q' := q
   obtain ⟨k', e', D, q1, q2, q3, ⟨es, clock, hb1, F, hes, hD⟩, q5, q6⟩ := q
   rw [M.m1] at q1; cases q1
   obtain ⟨v0, st, es1, clock1, r1, _, r3⟩ := WideElems.entry_then_store (R := plainElem P e) M.law M.m1 (fun u => (zeroIs_spec hz u).1) hb1 F hkey
   obtain ⟨v0', st', es1', clock1', x0, n1, n2, n3, n4⟩ := entry_mid M.law M.m1 M.m3 (fun u => (zeroIs_spec hz u).1) hb1 F hkey
   rw [r1] at n1
   injection n1 with _ n1
   rw [← n1] at n2
   have n5 := (mapAt_look q' M.m1 M.m3 hz hkey).1
   rw [n3] at n5
   have n6 : x0 = (m (kb2 a b)).getD 0 := by injection n5 with n5 _; injection n5
   have n7 : IntKind.i64.min ≤ x0 ∧ x0 ≤ IntKind.i64.max := by simpa only [in64, Bool.and_eq_true, decide_eq_true_eq] using n4
   obtain ⟨wm, pm1, _, pm3⟩ := mapAt_put q' M.m1 M.m3 hkey hnm n7.1 n7.2
   rw [n2] at pm1
   injection pm1 with _ pm1
   subst pm1
   have hmid : ∃ (n' : Nat) (m' : List UInt8 → Option Int), MapAt (ChangeMaps.setBlock w bb (.map es1 clock1)) P T n' m' bb ∧ ∀ y, (m' y).getD 0 = (m y).getD 0 := by
    refine ⟨_, _, pm3, fun y => ?_⟩
    by_cases hy : y = kb2 a b
    ·rw [if_pos hy, hy, n6]; rfl
    ·rw [if_neg hy]
   obtain ⟨h1, h2⟩ := (hs.forget kk).name kk hk (v := goInt st) rfl rfl
   have hne : ¬ kk = id := by
    intro e
    subst e
    have h3 := hs.dom kk _ hθ
    simp only [freshB, Bool.or_eq_true, List.elem_eq_mem, decide_eq_true_eq] at hk
    rcases hk with hk | hk
    ·have := Nat.eq_of_beq_eq_true hk; omega
    ·exact h3.2 hk
   have hb2 : look id ((kk, none) :: s.hp) = some (.dict P T n m) := by rw [look_cons, if_neg hne]; exact hb
   have hlt : bb < w.heap.size := (Array.getElem?_eq_some_iff.1 hb1).1
   have hg : w.grownBy (ChangeMaps.setBlock w bb (.map es1 clock1)) (some bb) := ⟨rfl, rfl, rfl, by simp [ChangeMaps.setBlock], fun i _ hi => ChangeMaps.heap_setBlock_other hb1 _ (fun e => hi (by rw [e]))⟩
   refine ⟨_, _, O, _, ?_, h1.upd (b' := .dictE P T n m (kb2 a b) kk) hb2 (h2 _ _ hθ) hg ⟨bb, st, rfl, by simp, hmid, es1, clock1, ChangeMaps.heap_setBlock_same hb1 _, fun w2 xx hw2 x1 x2 => ?_⟩, .tup _ #[v0, goInt st] rfl fun i y u hy hu => ?_⟩
   ·simp [execOp, ho, hv, e2, r1]
   ·obtain ⟨es', clock', s1, s2⟩ := r3 w2 (.int .i64 xx) hw2
    obtain ⟨w', p1, p2, p3⟩ := mapAt_put q' M.m1 M.m3 hkey hnm x1 x2
    rw [s2] at p1
    cases p1
    refine ⟨_, s1, ⟨rfl, rfl, rfl, by simp [ChangeMaps.setBlock], fun i _ hi => ChangeMaps.heap_setBlock_other hw2 _ (fun e => hi (by rw [e]))⟩, p3.of_block ?_⟩
    rw [ChangeMaps.heap_setBlock_same hw2, ChangeMaps.heap_setBlock_same hb1]
   ·match i with
    | 0 => simp at hy hu; subst hy; exact .any _
    | 1 => simp at hy hu; subst hy; subst hu; exact .ls _ _ (by simp)
    | i + 2 => simp at hy
theorem op_lookup2E {T k e E : Nat} {x y : Operand} {id n kk : Nat} {m : List UInt8 → Option Int} {key : List UInt8} {a b r : Int} (ho : o.op = .lookup T x y false) (hx : ev s x = some (.ls id)) (hb : look id s.hp = some (.dictE P T n m key kk)) (hy : ev s y = some (.pv (.agg [.int .i64 a, .int .i64 b])))
  (hm : mapB2 P T k e E = true) (hz : zeroIs P e (.int .i64 0)) (hr : mget2 m a b = some r) (hd : o.dst = d) (hn : dOk s d = true) : OpOk ro P c o s (s.put d (some (.pv (.int .i64 r)))) :=
 opOk_value hd hn (by rw [ho]; intro k h; cases h) fun ac w O θ hs => by
  have M := mapB2_spec hm
  unfold mget2 at hr
  split at hr
  ·rename_i h2
   cases hr
   simp only [Bool.and_eq_true] at h2
   have h := ev_ok hs hx
   have e2 := rd_pair (ev_pv hs hy)
   generalize hv : ac.eval x = v at h
   cases h with
   | ls _ _ h =>
    obtain ⟨v', hv', ⟨bb, st, rfl, _, ⟨n', m', q, hq⟩, _⟩, _⟩ := hs.hp id _ hb
    rw [h] at hv'; cases hv'
    have h1 := (mapAt_look q M.m1 M.m3 hz (M.key h2.1 h2.2)).1
    rw [hq] at h1
    exact ⟨_, by simp [execOp, ho, hv, e2, h1], .pv _ _ (.int _ _)⟩
  ·cases hr
theorem op_entryStore {T : Nat} {x y z : Operand} {id id2 n : Nat} {m : List UInt8 → Option Int} {key : List UInt8} {v : Int} (ho : o.op = .entryStore T x y z) (hx : ev s x = some (.ls id)) (hb : look id s.hp = some (.dictE P T n m key id2)) (hy : ev s y = some (.ls id2))
  (hzz : ev s z = some (.pv (.int .i64 v))) (h64 : in64 v = true) (hd : o.dst = none) :
  OpOk ro P c o s ((s.setBlk id (some (.dict P T (n + 1) (mset2 m key v)))).put none none) :=
 opOk_skip (s1 := s.setBlk id (some (.dict P T (n + 1) (mset2 m key v)))) hd rfl (by rw [ho]; intro k h; cases h) fun a w O θ hs => by
  simp only [in64, Bool.and_eq_true, decide_eq_true_eq] at h64
  have h := ev_ok hs hx
  have hst := ev_ok hs hy
  have e3 := ev_int hs hzz
  generalize hv : a.eval x = u at h
  generalize hv2 : a.eval y = u2 at hst
  cases h with
  | ls _ _ h =>
   cases hst with
   | ls _ _ hst =>
    obtain ⟨v', hv', ⟨b, st, rfl, t1, _, es, clock, t2, t3⟩, _⟩ := hs.hp id _ hb
    have hθ := hv'
    rw [h] at hv'; cases hv'
    rw [hst] at t1; cases t1
    obtain ⟨w3, s1, s2, s3⟩ := t3 w v t2 h64.1 h64.2
    refine ⟨w3, O, θ, ?_, hs.upd hb hθ s2 ⟨b, rfl, s3⟩⟩
    simp [execOp, ho, hv, hv2, e3, s1]
end
end Go.Abs

/- The slice of a row's first elements, handed to a function that reads it. -/
namespace Go.Abs
variable {G : List (Nat × List PV)}
open Go.RowKit
section
variable {ro : Option Nat} {P : Program} {c : Cx G} {s s' : St} {o : Oper} {d : Option Nat}
theorem op_slice_sp {T e e' sz : Nat} {x y : Operand} {k : IntKind} {n : Int} {id : Nat} {rows r : List (List PV)} (ho : o.op = .slice T x none (some y) none) (hx : ev s x = some (.ls id)) (hb : look id s.hp = some (.row e' sz rows)) (hy : ev s y = some (.pv (.int k n)))
  (ht : sliceB P T e sz = true) (hr : cutL rows 0 n = some r) (hd : o.dst = d) (hn : dOk s d = true) : OpOk ro P c o s (s.put d (some (.sp id sz r))) :=
 opOk_value hd hn (by rw [ho]; intro k h; cases h) fun a w O θ hs => by
  obtain ⟨q0, q1, q2, rfl⟩ := cutL_spec hr
  obtain ⟨i, h1, h2, h3⟩ := sliceB_spec ht
  have h := ev_ok hs hx
  have hi := ev_int hs hy
  generalize ha : a.eval x = u at h
  have hl : ((rows.take n.toNat).drop (0 : Int).toNat).length = n.toNat := by simp; omega
  cases h with
  | ls _ _ h =>
   obtain ⟨v', hv', ⟨us, hown, hrd⟩, hO2⟩ := hs.hp id _ hb
   rw [h] at hv'; cases hv'
   rcases hown.2 with ⟨rfl, h6⟩ | ⟨g, cap, cur, rfl, _, hg, hnc, hcm, hcs, htk⟩
   ·have hn0 : n = 0 := by omega
    subst hn0
    have b1 := run_sliceBound (P := P) (w := w) (k := k) (n := 0) (y := 0) (code := .sliceAcap) (by omega) (by omega)
    exact ⟨.slice none 0 0, by simp [execOp, ho, ha, hi, Instr.sliceAt, run_underlying h1, Instr.slice, Instr.sliceBounds, sizeOf, typeInfo, h2, h3, b1], .sp _ _ _ _ _ h (by rw [hl]; rfl)⟩
   ·have b1 := run_sliceBound (P := P) (w := w) (k := k) (n := n) (y := cap) (code := .sliceAcap) (by omega) (by omega)
    refine ⟨.slice (some ⟨g, 0, none⟩) n.toNat cap, ?_, .sp _ _ _ _ _ h (by rw [hl]; simp only [cutV]; rw [if_pos (by omega)])⟩
    by_cases hc0 : cap = 0
    ·subst hc0
     simp [execOp, ho, ha, hi, Instr.sliceAt, run_underlying h1, Instr.slice, Instr.sliceBounds, sizeOf, typeInfo, h2, h3, b1, Addr.add_lit]
    ·simp [execOp, ho, ha, hi, Instr.sliceAt, run_underlying h1, Instr.slice, Instr.sliceBounds, sizeOf, typeInfo, h2, h3, b1, Addr.add_lit]
theorem view_sp {O : Nat → Prop} {θ : Nat → Option Value} {a : Act} {w : World} (hs : SimAt c s O θ a w) {id e sz : Nat} {rows r : List (List PV)} {n : Int} {u : Value} (hb : look id s.hp = some (.row e sz rows)) (hr : cutL rows 0 n = some r) (h : RdA w O θ (.sp id sz r) u) : Rd w (fun _ => False) (.vs sz r) u := by
 obtain ⟨q0, q1, q2, rfl⟩ := cutL_spec hr
 have hl : ((rows.take n.toNat).drop (0 : Int).toNat).length = n.toNat := by simp; omega
 have hrw : (rows.take n.toNat).drop (0 : Int).toNat = rows.take n.toNat := by simp
 cases h with
 | sp _ _ _ v0 _ h hc =>
  obtain ⟨v', hv', ⟨us, hown, hrd⟩, hO⟩ := hs.hp id _ hb
  rw [h] at hv'; cases hv'
  rw [hl] at hc
  rw [hrw]
  have hrd2 : RowsRd w (fun _ => False) sz (rows.take n.toNat) (us.take (n.toNat * sz)) := by
   have hrd' : RowsRd w (fun _ => False) sz rows us := hrd.mono (Nat.le_refl _) (fun b _ hn => ⟨fun h2 => h2.elim, rfl⟩)
   refine ⟨?_, fun row hr => hrd'.hz row (List.mem_of_mem_take hr), fun row hr => hrd'.one row (List.mem_of_mem_take hr), fun i j row x u h1 h2 h3 => ?_⟩
   ·have : n.toNat * sz ≤ rows.length * sz := Nat.mul_le_mul_right _ (by omega)
    rw [List.length_take, List.length_take, hrd'.len, Nat.min_eq_left this, Nat.min_eq_left (by omega)]
   ·rw [List.getElem?_take] at h1 h3
    split at h1
    ·split at h3
     ·exact hrd'.rd i j row x u h1 h2 h3
     ·cases h3
    ·cases h1
  have hlt : (rows.take n.toNat).length = n.toNat := by rw [List.length_take]; omega
  rcases hown.2 with ⟨rfl, h4⟩ | ⟨g, cap, cur, rfl, _, hg, hnc, hcm, hcs, ht⟩
  ·have hn0 : n = 0 := by omega
   subst hn0
   simp only [cutV] at hc
   rw [if_pos (by simp)] at hc
   cases hc
   exact Rd.vs0 sz
  ·simp only [cutV] at hc
   rw [if_pos (by omega)] at hc
   cases hc
   have hk : n.toNat * sz ≤ rows.length * sz := Nat.mul_le_mul_right _ (by omega)
   have := rd_vs_of_rows (cap := cap) hrd2 hg (by rw [hlt, ← ht, List.take_take, Nat.min_eq_left hk]) (fun h => h) (by rw [hlt]; omega) hcm
   rw [hlt] at this
   exact this
def ViewS (hp fz : List (Nat × Option Blk)) : List AV → List PV → Prop
 | [], [] => True
 | .sp id sz r :: l, p :: ps => (∃ e rows n, look id hp = some (.row e sz rows) ∧ cutL rows 0 n = some r ∧ p = .vs sz r) ∧ ViewS hp fz l ps
 | x :: l, p :: ps => viewPV fz x = some p ∧ ViewS hp fz l ps
 | _, _ => False
theorem viewS_get {hp fz : List (Nat × Option Blk)} : ∀ {l : List AV} {ps : List PV}, ViewS hp fz l ps → l.length = ps.length ∧ ∀ (i : Nat) (x : AV) (p : PV), l[i]? = some x → ps[i]? = some p →
  (∃ id sz r e rows n, x = .sp id sz r ∧ look id hp = some (.row e sz rows) ∧ cutL rows 0 n = some r ∧ p = .vs sz r) ∨ viewPV fz x = some p
 | [], [], _ => ⟨rfl, by simp⟩
 | [], _ :: _, h => by simp [ViewS] at h
 | x :: l, [], h => by cases x <;> simp [ViewS] at h
 | x :: l, p :: ps, h => by
  have key : ViewS hp fz l ps ∧ ((∃ id sz r e rows n, x = .sp id sz r ∧ look id hp = some (.row e sz rows) ∧ cutL rows 0 n = some r ∧ p = .vs sz r) ∨ viewPV fz x = some p) := by
   cases x with
   | sp id sz r => obtain ⟨⟨e, rows, n, h1, h2, h3⟩, h4⟩ := h; exact ⟨h4, .inl ⟨id, sz, r, e, rows, n, rfl, h1, h2, h3⟩⟩
   | _ => exact ⟨h.2, .inr h.1⟩
  obtain ⟨i1, i2⟩ := viewS_get key.1
  refine ⟨by simp [i1], fun i y q hy hq => ?_⟩
  cases i with
  | zero => simp at hy hq; subst hy; subst hq; exact key.2
  | succ i => exact i2 i y q (by simpa using hy) (by simpa using hq)
theorem op_callBS (kk : Nat) (hk : freshB s kk = true) {fo : Operand} {xs : List Operand} {ts : Array TypeId} {f : Nat} {fa : AV} {caps : List PV} {asx : List AV} {args : List PV} {rs : List Res} (fz : List (Nat × Option Blk)) (ho : o.op = .call { callee := .value fo, args := xs.toArray, argTypes := ts }) (hf : ev s fo = some fa) (hx : evl s xs = some asx)
  (hfz : ∀ x ∈ fz, ∃ b, x.2 = some b ∧ look x.1 s.hp = some b) (hvf : viewPV fz fa = some (.fn f caps)) (hva : ViewS s.hp fz asx args) (hB : callB P f = true)
  (h : Fn G P f (args ++ caps) rs) (hflat : (rs.all Res.flat) = true) (hd : o.dst = d) (hn : dOk s d = true) : OpOk ro P c o s (s.put d (some (resTop kk rs))) := by
 rintro a w ⟨O, θ, hs⟩ K Q hK
 have hfz' : ∀ id b, look id fz = some b → look id s.hp = some b := by
  intro id b hl
  obtain ⟨b', h1, h2⟩ := hfz _ (look_mem hl)
  cases h1; exact h2
 obtain ⟨e1, e2⟩ := evl_ok hs hx
 obtain ⟨e3, e4⟩ := viewS_get hva
 have hfv := view_ok (O2 := fun _ => False) hs hfz' (fun g h => h.elim) (fun _ _ _ _ _ _ _ h => h) hvf (ev_ok hs hf)
 generalize hfa : a.eval fo = fv at hfv
 cases hfv with
 | fn _ _ us hn' hh =>
  refine ⟨fun f _ => trivial, ?_⟩
  have hrun : (execOp a.eval o).run P w = .ok (.enter f ((xs.map a.eval).toArray ++ us)) w := by
   simp [execOp, ho, resolve, Deferred.ofValue, hfa, invoke, callB_spec hB]
  rw [Oper.semAt_plain _ _ _ (by rw [ho]; intro k h; cases h), hrun]
  refine ⟨fun h => by simp [FF, Fence.wide] at h, ?_⟩
  have hcall := h w (fun _ => False) ((xs.map a.eval).toArray ++ us) (fun _ h => h.elim) (c.JG hs.jn).shut (by simp [hn']; omega) (fun i p v hp hv => by
   rw [List.getElem?_append] at hp
   split at hp
   ·rename_i hi
    rw [Array.getElem?_append_left (by simp; omega)] at hv
    have hi' : i < asx.length := by omega
    have hr := e2 i asx[i] v (List.getElem?_eq_getElem hi') (by simpa using hv)
    rcases e4 i asx[i] p (List.getElem?_eq_getElem hi') hp with ⟨id, sz, r, e, rows, n, h1, h2, h3, rfl⟩ | h1
    ·rw [h1] at hr; exact view_sp hs h2 h3 hr
    ·exact view_ok (O2 := fun _ => False) hs hfz' (fun g h => h.elim) (fun _ _ _ _ _ _ _ h => h) h1 hr
   ·rename_i hi
    rw [Array.getElem?_append_right (by simp; omega)] at hv
    exact hh _ p v hp (by
     have : xs.length = args.length := by omega
     simpa [this] using hv))
  refine CallsIn.mono (callsIn_wide (n := 0 - 1).2 hcall) ?_
  rintro e w' ⟨v, O', rfl, hg, _, hr⟩
  have hall : ∀ r ∈ rs, ∃ p, r = .p p ∧ p.flat = true := by
   intro r hr
   have := List.all_eq_true.1 hflat r hr
   cases r with
   | p p => exact ⟨p, rfl, this⟩
   | _ => simp [Res.flat] at this
  have hob : oneOwn rs = some none := by
   have : ∀ rs : List Res, (∀ r ∈ rs, ∃ p, r = .p p ∧ p.flat = true) → oneOwn rs = some none := by
    intro rs
    induction rs with
    | nil => intro _; rfl
    | cons r rs ih =>
     intro h
     obtain ⟨p, rfl, _⟩ := h r (by simp)
     exact ih fun r hr => h r (by simp [hr])
   exact this rs hall
  have hr' : RetOk w' O w.heap.size rs v := by
   unfold RetOk at hr ⊢
   split at hr
   ·rename_i r
    obtain ⟨p, rfl, hp⟩ := hall r (by simp)
    exact Rd.flat hr hp
   ·obtain ⟨us, h1, h2, h3⟩ := hr
    refine ⟨us, h1, h2, fun i r u hr hu => ?_⟩
    obtain ⟨p, rfl, hp⟩ := hall r (List.mem_of_getElem? hr)
    exact Rd.flat (h3 i _ u hr hu) hp
  obtain ⟨O2, θ2, g1, g2⟩ := sim_of_ret kk hk hs hg (fun _ h => h) hr' hob
  subst hd
  exact hK _ _ ⟨O2, θ2, g1.put _ _ _ (dOk_lt hn) (dOk_kt hn) g2⟩
end
end Go.Abs

/- slices.SortFunc at pairs of numbers, out of the kit's contract. -/
namespace Go.Abs
variable {G : List (Nat × List PV)}
open Go.RowKit Go.Sort Go.Lib
open Go.Proofs (ltOf sortWorldK)
instance : Inhabited (A2 Int) := ⟨⟨0, 0⟩⟩
def cfP (x y : A2 Int) : Int := if Lib.compareInt x.a0 y.a0 ≠ 0 then Lib.compareInt x.a0 y.a0 else Lib.compareInt x.a1 y.a1
def encP (x : A2 Int) : List Value := [.int .i64 x.a0, .int .i64 x.a1]
theorem ltP (x y : A2 Int) : ltOf cfP x y = decide (x.a0 < y.a0 ∨ (x.a0 = y.a0 ∧ x.a1 < y.a1)) := by
 unfold ltOf cfP Lib.compareInt
 by_cases h1 : x.a0 < y.a0
 ·simp [h1]
 ·by_cases h2 : y.a0 < x.a0
  ·have : ¬ x.a0 = y.a0 := by omega
   simp [h1, h2, this]
  ·have h3 : x.a0 = y.a0 := by omega
   by_cases h4 : x.a1 < y.a1
   ·simp [h3, h4]
   ·by_cases h5 : y.a1 < x.a1 <;> simp [h3, h4, h5]
theorem swoP : SWO (ltOf cfP) where
 irrefl x := by rw [ltP]; simp
 trans x y z h1 h2 := by rw [ltP] at *; simp at *; omega
 ntrans x y z h1 h2 := by rw [ltP] at *; simp at *; omega
theorem totP (x y : A2 Int) (h1 : ltOf cfP x y = false) (h2 : ltOf cfP y x = false) : x = y := by
 rw [ltP] at h1 h2
 simp at h1 h2
 cases x; cases y
 simp at h1 h2 ⊢
 omega
def sortP (l : List (A2 Int)) : Option (List (A2 Int)) := if l.length < 4611686018427387904 then some (l.mergeSort fun x y => !(ltOf cfP) y x) else none
theorem rows_pairs {w : World} {O : Nat → Prop} : ∀ (x : List (A2 Int)) (us : List Value), RowsRd w O 2 (x.map (eA2 eI)) us → us = x.flatMap encP
 | [], us, h => by
  have := h.len
  simp at this
  simp [this]
 | p :: x, us, h => by
  have hl := h.len
  simp only [List.map_cons, List.length_cons, List.length_map] at hl
  match us, hl with
  | [], hl => simp at hl
  | [_], hl => simp at hl; omega
  | a :: b :: t, hl =>
   have h0 := h.rd 0 0 _ (.int .i64 p.a0) a rfl rfl rfl
   have h1 := h.rd 0 1 _ (.int .i64 p.a1) b rfl rfl rfl
   cases h0; cases h1
   have ih := rows_pairs x t ⟨by simp at hl ⊢; omega, fun row hr => h.hz row (by simp at hr ⊢; exact .inr hr), fun row hr => h.one row (by simp at hr ⊢; exact .inr hr), fun i j row c u q1 q2 q3 => by
    refine h.rd (i + 1) j row c u (by simpa using q1) q2 ?_
    rw [show (i + 1) * 2 + j = i * 2 + j + 1 + 1 by omega]
    simpa using q3⟩
   rw [ih]; rfl
theorem pairs_rows (w : World) (O : Nat → Prop) : ∀ x : List (A2 Int), RowsRd w O 2 (x.map (eA2 eI)) (x.flatMap encP)
 | [] => ⟨rfl, by simp, by simp, by simp⟩
 | p :: x => by
  have ih := pairs_rows w O x
  refine ⟨?_, fun row hr => ?_, fun row hr => ?_, fun i j row c u q1 q2 q3 => ?_⟩
  ·have := ih.len
   simp [encP] at this ⊢; omega
  ·simp only [List.map_cons, List.mem_cons] at hr
   rcases hr with rfl | hr
   ·rfl
   ·exact ih.hz row hr
  ·simp only [List.map_cons, List.mem_cons] at hr
   rcases hr with rfl | hr
   ·intro c hc; simp [eI] at hc; rcases hc with rfl | rfl <;> rfl
   ·exact ih.one row hr
  ·cases i with
   | zero =>
    simp at q1; subst q1
    match j, q2, q3 with
    | 0, q2, q3 => simp [eI] at q2; subst q2; simp [encP] at q3; subst q3; exact .int _ _
    | 1, q2, q3 => simp [eI] at q2; subst q2; simp [encP] at q3; subst q3; exact .int _ _
    | j + 2, q2, q3 => simp [eI] at q2
   | succ i =>
    refine ih.rd i j row c u (by simpa using q1) q2 ?_
    rw [show (i + 1) * 2 + j = i * 2 + j + 1 + 1 by omega] at q3
    simpa [encP] using q3
theorem flat_get : ∀ (x : List (A2 Int)) (t : Nat), t < x.length * 2 → (x.flatMap encP)[t]? = some ((encP x[t / 2]!)[t % 2]!)
 | [], t, h => by simp at h
 | p :: x, 0, _ => rfl
 | p :: x, 1, _ => rfl
 | p :: x, t + 2, h => by
  have := flat_get x t (by simp at h; omega)
  rw [show (t + 2) / 2 = t / 2 + 1 by omega, show (t + 2) % 2 = t % 2 by omega]
  simpa [encP] using this
theorem flat_len (x : List (A2 Int)) : (x.flatMap encP).length = x.length * 2 := by
 induction x with
 | nil => rfl
 | cons p x ih => simp [encP] at ih ⊢; omega
theorem flatK_get (x : List (A2 Int)) (t : Nat) (h : t < x.length * 2) : (flatK encP 2 x.toArray)[t]! = (encP x[t / 2]!)[t % 2]! := by
 rw [get_flatK _ _ _ _ (by simpa using h)]
 simp
theorem holds_pairs {w : World} {g E : Nat} {cur : Array Value} {x : List (A2 Int)} (hg : w.heap[g]? = some (.cells cur E (0, 0))) (ht : cur.toList.take (x.length * 2) = x.flatMap encP) : HoldsK encP 2 w g 0 x.toArray := by
 intro j hj
 rw [size_flatK] at hj
 simp only [List.size_toArray] at hj
 refine ⟨?_, by simp [World.frozen?, hg]⟩
 have h1 := flat_get x j hj
 rw [← ht, List.getElem?_take, if_pos hj] at h1
 rw [Nat.zero_add, cell_of_row w g _ cur E (0, 0) hg]
 rw [show id (flatK encP 2 x.toArray)[j]! = (encP x[j / 2]!)[j % 2]! from flatK_get x j hj]
 simpa using h1
theorem heap_sorted {w : World} {g E n : Nat} {cur : Array Value} {r : List (A2 Int)} {os : Array Obj} (hg : w.heap[g]? = some (.cells cur E (0, 0))) (hs : r.length * 2 ≤ cur.size) :
  (∃ cur', (sortWorldK encP 2 w g 0 n r.toArray os).heap[g]? = some (.cells cur' E (0, 0)) ∧ cur'.size = cur.size ∧ cur'.toList.take (r.length * 2) = r.flatMap encP) ∧ w.grownBy (sortWorldK encP 2 w g 0 n r.toArray os) (some g) := by
 have hlt : g < w.heap.size := (Array.getElem?_eq_some_iff.1 hg).1
 have hh : (sortWorldK encP 2 w g 0 n r.toArray os).heap = (w.heap.modify g (onCells (putCells id 0 (flatK encP 2 r.toArray)))) ++ os := rfl
 refine ⟨⟨putCells id 0 (flatK encP 2 r.toArray) cur, ?_, by simp [putCells], ?_⟩, rfl, rfl, rfl, ?_, fun i hi hne => ?_⟩
 ·rw [hh, Array.getElem?_append_left (by simpa using hlt), Array.getElem?_modify, if_pos rfl, hg]; rfl
 ·apply List.ext_getElem?
  intro t
  rw [List.getElem?_take]
  by_cases h : t < r.length * 2
  ·rw [if_pos h, flat_get r t h, Array.getElem?_toList]
   unfold putCells
   rw [Array.getElem?_mapIdx, Array.getElem?_eq_getElem (by omega)]
   simp only [Option.map_some, Option.some.injEq]
   rw [if_pos ⟨Nat.zero_le _, by rw [size_flatK]; simpa using h⟩]
   exact flatK_get r t h
  ·rw [if_neg h, List.getElem?_eq_none (by rw [flat_len]; omega)]
 ·rw [hh]; simp
 ·rw [hh, Array.getElem?_append_left (by simpa using hi), Array.getElem?_modify, if_neg (fun e => hne (by rw [e]))]
theorem fnW_sort {P : Program} {f g E : Nat} (raw : ∀ (blk cap : Nat) (d : Array (A2 Int)) (w : World), HoldsK encP 2 w blk 0 d → blk < w.heap.size → d.size < 4611686018427387904 →
   Calls P f #[.slice (some ⟨blk, 0, none⟩) d.size cap, .func (.func g) #[] #[]] w fun e w' => e = .returned (.tuple #[]) ∧ ∃ n os, w' = sortWorldK encP 2 w blk 0 n (d.toList.mergeSort fun x y => !(ltOf cfP) y x).toArray os)
  (none_ : ∀ (p : Option Addr) (cap : Nat) (fv : Value) (w : World), Calls P f #[.slice p 0 cap, fv] w fun e w' => e = .returned (.tuple #[]) ∧ w' = w) {x r : List (A2 Int)} (h : sortP x = some r) :
  FnW G P f [.ls 0, .pv (.fn g [])] [(0, some (.row E 2 (List.map (eA2 eI) x)))] 1 [(0, 0)] [] [(0, some (.row E 2 (List.map (eA2 eI) r)))] 1 := by
 intro w O θ vs hO _ hpre hsz hrd
 obtain ⟨v, hv, ⟨us, hown, hrows⟩, hOg⟩ := hpre.own 0 _ rfl
 have hus := rows_pairs x us hrows
 subst hus
 obtain ⟨a0, a1, rfl⟩ : ∃ a0 a1, vs = #[a0, a1] := by
  obtain ⟨l⟩ := vs
  match l, hsz with
  | [a, b], _ => exact ⟨a, b, rfl⟩
 have e0 := hrd 0 _ a0 rfl rfl
 have e1 := hrd 1 _ a1 rfl rfl
 have ha0 : a0 = v := by
  cases e0 with
  | ls _ _ h => rw [hv] at h; exact (Option.some.inj h).symm
 subst ha0
 have ha1 : a1 = .func (.func g) #[] #[] := by
  cases e1 with
  | pv _ _ h =>
   cases h with
   | fn _ _ us hn _ => simp at hn; subst hn; rfl
 subst ha1
 unfold sortP at h
 split at h
 ·rename_i hlt
  have hr := Option.some.inj h
  have hrl : r.length = x.length := by rw [← hr]; exact List.length_mergeSort x
  rw [List.length_map] at hown
  -- what is to be shown of a world behind
  have fin : ∀ w' : World, w.grownBy w' (blkOf a0) → ownsW w' E 2 a0 r.length (r.flatMap encP) → ∃ v O' θ', Ending.returned (.tuple #[]) = .returned v ∧ Ext (HpOf [(0, some (.row E 2 (List.map (eA2 eI) x)))] θ) w w' ∧ (∀ g, O g → ¬ HpOf [(0, some (.row E 2 (List.map (eA2 eI) x)))] θ g → O' g) ∧ (∀ g, O' g → g < w'.heap.size) ∧
   (∀ g, O' g → g < w.heap.size → O g) ∧
   PreW w' O' θ' [(0, some (.row E 2 (List.map (eA2 eI) r)))] 1 ∧ (∀ g, HpOf [(0, some (.row E 2 (List.map (eA2 eI) r)))] θ' g → HpOf [(0, some (.row E 2 (List.map (eA2 eI) x)))] θ g ∨ w.heap.size ≤ g) ∧ (∀ ij ∈ [(0, 0)], θ' ij.2 = θ ij.1) ∧ RdA w' O' θ' (topW []) v := by
   intro w' hg hown'
   have hl0 : ∀ (id : Nat) (b : Blk), look id [(0, some (Blk.row E 2 (List.map (eA2 eI) r)))] = some b → id = 0 ∧ b = .row E 2 (List.map (eA2 eI) r) := by
    intro id b hb
    rw [look_cons] at hb
    split at hb
    ·rename_i e; cases hb; exact ⟨e.symm, rfl⟩
    ·simp [look] at hb
   refine ⟨_, O, θ, rfl, ⟨hg.os, hg.tape, hg.output, hg.size, fun b hb hn => hg.block b hb (fun e => hn ⟨0, _, _, rfl, hv, e.symm⟩)⟩, fun g h _ => h, fun g h => Nat.lt_of_lt_of_le (hO g h) hg.size, fun g h _ => h,
    ⟨fun id b hb => ?_, fun i j bi bj vi vj g hi hj _ _ _ _ => by rw [(hl0 i bi hi).1, (hl0 j bj hj).1], hpre.dom, hpre.one⟩, fun g hh => ?_, by simp, .tup [] #[] rfl (by simp)⟩
   ·obtain ⟨rfl, rfl⟩ := hl0 id b hb
    exact ⟨a0, hv, ⟨_, by rw [List.length_map]; exact hown', pairs_rows w' O r⟩, fun g hgg => ⟨(hOg g hgg).1, Nat.lt_of_lt_of_le (hOg g hgg).2 hg.size⟩⟩
   ·obtain ⟨id, b, u, h1, h2, h3⟩ := hh
    obtain ⟨rfl, rfl⟩ := hl0 id b h1
    exact .inl ⟨0, _, u, rfl, h2, h3⟩
  rcases hown.2 with ⟨rfl, h0⟩ | ⟨b, cap, cur, rfl, _, hg, hnc, hcm, hcs, htk⟩
  ·have hx : x = [] := List.eq_nil_of_length_eq_zero h0
   subst hx
   have hr0 : r = [] := by rw [← hr]; simp
   subst hr0
   refine (none_ none 0 _ w).mono ?_
   rintro e w' ⟨rfl, rfl⟩
   exact fin w' (World.grownBy.refl _ _) (ownsW_nil _ _ _)
  ·have := raw b cap x.toArray w (holds_pairs hg htk) (Array.getElem?_eq_some_iff.1 hg).1 (by simpa using hlt)
   simp only [List.size_toArray, hr] at this
   refine this.mono ?_
   rintro e w' ⟨rfl, n, os, rfl⟩
   have hle : r.length * 2 ≤ cur.size := by rw [hrl]; have := Nat.mul_le_mul_right 2 hnc; omega
   obtain ⟨⟨cur', k1, k2, k3⟩, k4⟩ := heap_sorted (n := n) (os := os) hg hle
   exact fin _ k4 ⟨flat_len r, .inr ⟨b, cap, cur', by rw [hrl], trivial, k1, by omega, hcm, by rw [k2]; exact hcs, k3⟩⟩
 ·cases h
end Go.Abs

/- A region that draws its order, in which an operation that reads a block may come ahead of one that writes it, or behind. -/
namespace Go.Abs
variable {G : List (Nat × List PV)}
open Go.RowKit
def clashXB (p q : Nat) (masks : List Nat) (es : List Eff) : Bool :=
 (List.range es.length).all fun j => match es[j]? with
  | some ej => (List.range j).all fun i => match es[i]? with
   | some ei => !(clash ei ej) || Nat.testBit (masks.getD j 0) i || (Nat.beq i p && Nat.beq j q)
   | none => true
  | none => true
def orderXB (p q : Nat) (ops : List Oper) (es : List Eff) : Bool := edgesB 0 ops && (clashXB p q (ancs ops []) es && namesB es)
def exB (hid : Nat) (ep eq2 : Eff) : Bool := ep.upd.isEmpty && (rH ep == [hid]) && (wT ep).all (fun t => !((wT eq2).elem t) && !((rT eq2).elem t)) && (wT eq2).all fun t => !((rT ep).elem t)
theorem exB_spec {hid : Nat} {ep eq2 : Eff} (h : exB hid ep eq2 = true) : wH ep = [] ∧ True ∧ rH ep = [hid] ∧ (∀ t ∈ wT ep, t ∉ wT eq2 ∧ t ∉ rT eq2) ∧ ∀ t ∈ wT eq2, t ∉ rT ep := by
 simp only [exB, Bool.and_eq_true, List.all_eq_true, beq_iff_eq, List.isEmpty_iff] at h
 obtain ⟨⟨⟨h1, h2⟩, h3⟩, h4⟩ := h
 exact ⟨by simp [wH, h1], trivial, h2, fun t ht => by have := h3 t ht; simpa using this, fun t ht => by have := h4 t ht; simpa using this⟩
theorem orderXB_spec {p q : Nat} {ops : List Oper} {es : List Eff} (h : orderXB p q ops es = true) : (∀ i o, ops[i]? = some o → ∀ x ∈ edgesOf o, x < i) ∧ (∀ i j ei ej, i < j → es[i]? = some ei → es[j]? = some ej → clash ei ej = true → ¬ (i = p ∧ j = q) → Anc ops i j) ∧ ∀ e ∈ es, ∀ k ∈ e.names, k ∈ wH e := by
 simp only [orderXB, Bool.and_eq_true] at h
 refine ⟨fun i o ho x hx => by have := edgesB_spec ops 0 h.1 i o ho x hx; omega, fun i j ei ej hij hi hj hc hn => ?_, fun e he k hk => by
  have := List.all_eq_true.1 h.2.2 e he
  have := List.all_eq_true.1 this k hk
  simpa using this⟩
 have h2 := h.2.1
 simp only [clashXB, List.all_eq_true, List.mem_range] at h2
 have hjl : j < es.length := (List.getElem?_eq_some_iff.1 hj).1
 have := h2 j hjl
 rw [hj] at this
 simp only [List.all_eq_true, List.mem_range] at this
 have := this i hij
 rw [hi] at this
 simp only [hc, Bool.not_true, Bool.false_or, Bool.or_eq_true, Bool.and_eq_true] at this
 rcases this with h3 | ⟨h3, h4⟩
 ·exact ancs_spec ops i ops [] [] rfl rfl (by intro j h; simp at h) j h3
 ·exact (hn ⟨Nat.eq_of_beq_eq_true h3, Nat.eq_of_beq_eq_true h4⟩).elim
section
variable {ro : Option Nat} {P : Program} {c : Cx G} {Q : Exit → Act → World → Prop} {s s' : St}
theorem aw_drawn2 {id n next ys : Nat} {kt : List Nat} {df : List Deferred} {l : List Oper} (es : List Eff) (m0 : Mid) (p q hid : Nat) (bE : Blk) {ep eq2 : Eff} {op : Oper} (hp : es[p]? = some ep) (hq : es[q]? = some eq2) (hpq : p < q) (hop : l[p]? = some op) (hx : exB hid ep eq2 = true) (hlook : look hid eq2.upd = some bE) (hfact2 : ∀ m : Mid, Has { ep with hneed := [(hid, bE)] } m → StepOk ro P c l op (m.st n df next ys kt) ((ep.apply m).st n df next ys kt))
   (hm : P.follows .mixedOrders = true) (hs0 : s = m0.st n df next ys kt) (hF : OpFacts ro P c l n df next ys kt l es) (hT : TextOk es m0) (hB : orderXB p q l es = true)
  (h : Post c Q .normal ((runP (fun _ => true) 0 es m0).st n df next ys kt)) : AW ro P c (.region id l.toArray true) Q s := by
 subst hs0
 obtain ⟨hlen, hfact⟩ := wpIn_facts hF
 obtain ⟨hEdge, hClash, hNames⟩ := orderXB_spec hB
 obtain ⟨x1, x2, x3, x4, x5⟩ := exB_spec hx
 -- whoever waits for one that is listed ..
 have key : ∀ (fuel : Nat) (listed : Array Bool) (a : Act) (w : World), listed.size = l.length → (∀ j o e, l[j]? = some o → e ∈ o.after → Region.binds .any e = true → listed.getD j false = true → listed.getD e.on false = true) →
   ((List.range l.length).filter fun i => !listed.getD i true).length ≤ fuel → Sim c ((runP (fun i => listed.getD i false) 0 es m0).st n df next ys kt) a w → wpAnyIn (FF ro) 0 P .any l.toArray Q fuel listed a w := by
  have getD_tf : ∀ (listed : Array Bool) (i : Nat), i < listed.size → listed.getD i true = listed.getD i false := fun listed i hi => by simp [hi]
  have down : ∀ (listed : Array Bool), (∀ j o e, l[j]? = some o → e ∈ o.after → Region.binds .any e = true → listed.getD j false = true → listed.getD e.on false = true) → ∀ i j, Anc l i j → listed.getD j false = true → listed.getD i false = true := by
   intro listed hd i j ha
   induction ha with
   | one j o e ho he hb hi => intro hj; rw [← hi]; exact hd j o e ho he hb hj
   | more j o e ho he hb _ ih => intro hj; exact ih (hd j o e ho he hb hj)
  have finish : ∀ (listed : Array Bool) (a : Act) (w : World), listed.size = l.length → Region.ready .any l.toArray listed = [] → Sim c ((runP (fun i => listed.getD i false) 0 es m0).st n df next ys kt) a w → Q .normal a w := by
   intro listed a w hsz hr hs
   have all : ∀ i, i < l.length → listed.getD i false = true := by
    intro i
    induction i using Nat.strongRecOn with
    | _ i ih =>
     intro hi
     cases hb : listed.getD i false with
     | true => rfl
     | false =>
      exfalso
      have hmem : i ∈ Region.ready .any l.toArray listed := by
       refine mem_ready.2 ⟨by simpa using hi, by rw [getD_tf listed i (by omega)]; exact hb, l[i], by simp [hi], fun e he hbd => ?_⟩
       have hlt := hEdge i l[i] (by simp [hi]) e.on (mem_edgesOf.2 ⟨e, he, hbd, rfl⟩)
       exact ih e.on hlt (by omega)
      rw [hr] at hmem; cases hmem
   refine h a w ?_
   rw [← runP_congr (p := fun i => listed.getD i false) es 0 m0 (fun j hj => by rw [Nat.zero_add]; exact all j (by omega))]
   exact hs
  intro fuel
  induction fuel with
  | zero =>
   intro listed a w hsz hd hc hs
   have hr : Region.ready .any l.toArray listed = [] := by
    rw [List.eq_nil_iff_forall_not_mem]
    intro i hi
    obtain ⟨h1, h2, _⟩ := mem_ready.1 hi
    have : i ∈ (List.range l.length).filter fun i => !listed.getD i true := List.mem_filter.2 ⟨by simpa using h1, by simp [h2]⟩
    have := List.length_pos_of_mem this
    omega
   exact ⟨hr, finish listed a w hsz hr hs⟩
  | succ fuel ih =>
   intro listed a w hsz hd hc hs
   refine ⟨fun hr => finish listed a w hsz hr hs, fun i hi => ?_⟩
   obtain ⟨h1, h2, o, ho, hafter⟩ := mem_ready.1 hi
   have hil : i < l.length := by simpa using h1
   have ho' : l[i]? = some o := by simpa using ho
   have hiF : listed.getD i false = false := by rw [← getD_tf listed i (by omega)]; exact h2
   obtain ⟨e, he⟩ : ∃ e, es[i]? = some e := ⟨es[i]'(by omega), List.getElem?_eq_getElem (by omega)⟩
   have noT : ∀ j ej t, es[j]? = some ej → t ∈ wT ej → (t ∈ wT e ∨ t ∈ rT e) → ¬ (i = p ∧ j = q) ∧ ¬ (i = q ∧ j = p) := by
    intro j ej t hj ht ht2
    refine ⟨?_, ?_⟩
    ·rintro ⟨rfl, rfl⟩
     rw [hp] at he; cases he
     rw [hq] at hj; cases hj
     rcases ht2 with h | h
     ·exact (x4 t h).1 ht
     ·exact x5 t ht h
    ·rintro ⟨rfl, rfl⟩
     rw [hq] at he; cases he
     rw [hp] at hj; cases hj
     rcases ht2 with h | h
     ·exact (x4 t ht).1 h
     ·exact (x4 t ht).2 h
   have noH : ∀ j ej t, es[j]? = some ej → t ∈ wH ej → t ∈ wH e → ¬ (i = p ∧ j = q) ∧ ¬ (i = q ∧ j = p) := by
    intro j ej t hj ht ht2
    refine ⟨?_, ?_⟩
    ·rintro ⟨rfl, rfl⟩
     rw [hp] at he; cases he
     rw [x1] at ht2; cases ht2
    ·rintro ⟨rfl, rfl⟩
     rw [hp] at hj; cases hj
     rw [x1] at ht; cases ht
   -- all that it waits for is listed
   have hanc : ∀ j, Anc l j i → listed.getD j false = true := by
    intro j hj
    cases hj with
    | one _ o2 e2 ho2 he2 hb2 hi2 =>
     rw [ho'] at ho2; cases ho2
     rw [← hi2]; exact hafter e2 he2 hb2
    | more _ o2 e2 ho2 he2 hb2 h3 =>
     rw [ho'] at ho2; cases ho2
     exact down listed hd j e2.on h3 (hafter e2 he2 hb2)
   -- whoever clashes with it is listed just if it stands ahead of it
   have agree : ∀ j ej, es[j]? = some ej → (j ≠ i → (clash e ej = true ∧ clash ej e = true) ∧ ¬ (i = p ∧ j = q) ∧ ¬ (i = q ∧ j = p)) → listed.getD (0 + j) false = Nat.blt (0 + j) (0 + i) := by
    intro j ej hj hcl
    simp only [Nat.zero_add]
    by_cases hji : j = i
    ·subst hji; rw [hiF]; simp [Nat.blt_eq, Bool.eq_false_iff]
    ·obtain ⟨⟨c1, c2⟩, nx1, nx2⟩ := hcl hji
     rcases Nat.lt_or_gt_of_ne hji with hlt | hlt
     ·rw [hanc j (hClash j i ej e hlt hj he c2 (fun h => nx2 ⟨h.2, h.1⟩))]
      rw [eq_comm]; simpa [Nat.blt_eq] using hlt
     ·have hA := hClash i j e ej hlt he hj c1 nx1
      have : listed.getD j false = false := by
       cases hb : listed.getD j false with
       | false => rfl
       | true => have := down listed hd i j hA hb; rw [hiF] at this; cases this
      rw [this]; symm; rw [Bool.eq_false_iff]; simp [Nat.blt_eq]; omega
   have clT : ∀ (t : Nat) (a b : Eff), t ∈ wT a → (t ∈ wT b ∨ t ∈ rT b) → clash a b = true ∧ clash b a = true := by
    intro t a b ha hb
    constructor
    ·simp only [clash, Bool.or_eq_true, List.any_eq_true]
     exact .inl (.inl (.inl ⟨t, ha, by simpa using hb⟩))
    ·rcases hb with hb | hb
     ·simp only [clash, Bool.or_eq_true, List.any_eq_true]
      exact .inl (.inl (.inl ⟨t, hb, by simp [ha]⟩))
     ·simp only [clash, Bool.or_eq_true, List.any_eq_true]
      exact .inl (.inl (.inr ⟨t, ha, by simpa using hb⟩))
   have clH : ∀ (t : Nat) (a b : Eff), t ∈ wH a → (t ∈ wH b ∨ t ∈ rH b) → clash a b = true ∧ clash b a = true := by
    intro t a b ha hb
    constructor
    ·simp only [clash, Bool.or_eq_true, List.any_eq_true]
     exact .inl (.inr ⟨t, ha, by simpa using hb⟩)
    ·rcases hb with hb | hb
     ·simp only [clash, Bool.or_eq_true, List.any_eq_true]
      exact .inl (.inr ⟨t, hb, by simp [ha]⟩)
     ·simp only [clash, Bool.or_eq_true, List.any_eq_true]
      exact .inr ⟨t, ha, by simpa using hb⟩
   have hhas0 := textOk_has es 0 m0 hT i e he
   rw [runP_take] at hhas0
   have hT' : HasT (runP (fun i => listed.getD i false) 0 es m0).fr e.need := by
    refine HasT.iff.2 fun t x hx => ?_
    have hr : t ∈ rT e := List.mem_map.2 ⟨_, hx, rfl⟩
    rw [runP_fr (q := fun j => Nat.blt j (0 + i)) es 0 m0 m0 rfl (fun j ej hj ht => agree j ej hj fun _ => ⟨(clT t ej e ht (.inr hr)).symm, noT j ej t hj ht (.inr hr)⟩)]
    exact HasT.iff.1 hhas0.1 t x hx
   have hN' : HasN (runP (fun i => listed.getD i false) 0 es m0).free e.names := by
    refine HasN.iff.2 fun k hk => ?_
    have hw : k ∈ wH e := hNames e (List.mem_of_getElem? he) k hk
    rw [runP_free (q := fun j => Nat.blt j (0 + i)) es 0 m0 m0 Iff.rfl (fun j ej hj ht => agree j ej hj fun _ => ⟨(clH k ej e (hNames ej (List.mem_of_getElem? hj) k ht) (.inl hw)).symm, noH j ej k hj (hNames ej (List.mem_of_getElem? hj) k ht) hw⟩)]
    exact HasN.iff.1 hhas0.2.2 k hk
   have hstep : StepOk ro P c l o ((runP (fun i => listed.getD i false) 0 es m0).st n df next ys kt) ((e.apply (runP (fun i => listed.getD i false) 0 es m0)).st n df next ys kt) := by
    by_cases hsp : i = p ∧ listed.getD q false = true
    ·obtain ⟨rfl, hql⟩ := hsp
     rw [hp] at he; cases he
     rw [hop] at ho'; cases ho'
     refine hfact2 _ ⟨hT', ⟨?_, trivial⟩, hN'⟩
     have hwq : hid ∈ wH eq2 := by
      unfold wH
      have := look_mem hlook
      exact List.mem_map.2 ⟨_, this, rfl⟩
     rw [runP_lastH (q := fun i => listed.getD i false) es 0 q m0 m0 eq2 hq (by simpa using hql) hwq (fun j ej hlt hj htj => by
      rw [Nat.zero_add]
      cases hb : listed.getD j false with
      | false => rfl
      | true =>
       have hcl : clash ep ej = true := (clH hid ej ep htj (.inr (by rw [x3]; simp))).2
       have := down listed hd i j (hClash i j ep ej (by omega) hp hj hcl (fun h => by omega)) hb
       rw [hiF] at this; cases this)]
     show look hid (eq2.upd ++ m0.hp) = some bE
     rcases look_append hid eq2.upd m0.hp with ⟨y, hy, he2⟩ | ⟨hno, _⟩
     ·rw [look_append_in (m' := []) hwq, List.append_nil]; exact hlook
     ·exact (hno _ (look_mem hlook)).elim
    ·refine hfact i o e ho' he _ ⟨hT', HasH.iff.2 fun t x hx => ?_, hN'⟩
     have hr : t ∈ rH e := List.mem_map.2 ⟨_, hx, rfl⟩
     rw [runP_hp (q := fun j => Nat.blt j (0 + i)) es 0 m0 m0 rfl (fun j ej hj ht => by
      by_cases hij : i = p ∧ j = q
      ·obtain ⟨rfl, rfl⟩ := hij
       rw [Nat.zero_add, Nat.zero_add]
       have : listed.getD j false = false := by
        cases hb : listed.getD j false with
        | false => rfl
        | true => exact (hsp ⟨rfl, hb⟩).elim
       rw [this]; symm; rw [Bool.eq_false_iff]; simp [Nat.blt_eq]; omega
      ·refine agree j ej hj fun _ => ⟨(clH t ej e ht (.inr hr)).symm, hij, ?_⟩
       rintro ⟨rfl, rfl⟩
       rw [hp] at hj; cases hj
       rw [x1] at ht; cases ht)]
     exact HasH.iff.1 hhas0.2.1 t x hx
   have hset : ∀ j, (listed.setIfInBounds i true).getD j false = if j = i then true else listed.getD j false := by
    intro j
    simp only [Array.getD_eq_getD_getElem?, Array.getElem?_setIfInBounds]
    by_cases hji : j = i
    ·subst hji; simp [show j < listed.size by omega]
    ·rw [if_neg (fun e => hji e.symm), if_neg hji]
   -- the state behind it
   have himp : Imp c ((e.apply (runP (fun i => listed.getD i false) 0 es m0)).st n df next ys kt) ((runP (fun j => (listed.setIfInBounds i true).getD j false) 0 es m0).st n df next ys kt) := by
    have later : ∀ j ej, i < j → es[j]? = some ej → (clash e ej = true) → ¬ (i = p ∧ j = q) → (listed.setIfInBounds i true).getD (0 + j) false = false := by
     intro j ej hlt hj c1 nx1
     rw [Nat.zero_add, hset, if_neg (by omega)]
     cases hb : listed.getD j false with
     | false => rfl
     | true => have := down listed hd i j (hClash i j e ej hlt he hj c1 nx1) hb; rw [hiF] at this; cases this
    refine imp_less rfl rfl rfl rfl (fun t x hx => ?_) (fun t x hx => ?_) (fun k hk => ?_)
    ·by_cases ht : t ∈ wT e
     ·have := runP_last (q := fun j => (listed.setIfInBounds i true).getD j false) es 0 i m0 (runP (fun i => listed.getD i false) 0 es m0) e he (by simp only [Nat.zero_add]; rw [hset, if_pos rfl]) ht (fun j ej hlt hj htj => later j ej hlt hj (clT t e ej ht (.inl htj)).1 (noT j ej t hj htj (.inl ht)).1)
      exact this.symm.trans hx
     ·show look t (e.apply _).fr = some x
      rw [look_apply_fr ht, ← hx]
      refine (runP_fr es 0 m0 m0 rfl fun j ej hj htj => ?_).symm
      rw [hset, if_neg (fun e' => ?_)]
      rw [Nat.zero_add] at e'; subst e'
      rw [he] at hj; cases hj
      exact ht htj
    ·by_cases ht : t ∈ wH e
     ·have := runP_lastH (q := fun j => (listed.setIfInBounds i true).getD j false) es 0 i m0 (runP (fun i => listed.getD i false) 0 es m0) e he (by simp only [Nat.zero_add]; rw [hset, if_pos rfl]) ht (fun j ej hlt hj htj => later j ej hlt hj (clH t e ej ht (.inl htj)).1 (noH j ej t hj htj ht).1)
      exact this.symm.trans hx
     ·show look t (e.apply _).hp = some x
      rw [look_apply_hp ht, ← hx]
      refine (runP_hp es 0 m0 m0 rfl fun j ej hj htj => ?_).symm
      rw [hset, if_neg (fun e' => ?_)]
      rw [Nat.zero_add] at e'; subst e'
      rw [he] at hj; cases hj
      exact ht htj
    ·show k ∈ (e.apply _).free
     have hk' : k ∈ (runP (fun j => (listed.setIfInBounds i true).getD j false) 0 es m0).free := hk
     obtain ⟨_, hkn⟩ := runP_freeSub es 0 m0 hk'
     have hke : k ∉ e.names := hkn i e he (by simp only [Nat.zero_add]; rw [hset, if_pos rfl])
     rw [free_apply hke]
     refine (runP_free es 0 m0 m0 Iff.rfl fun j ej hj htj => ?_).1 hk'
     rw [hset, if_neg (fun e' => ?_)]
     rw [Nat.zero_add] at e'; subst e'
     rw [he] at hj; cases hj
     exact hke htj
   have hnext : ∀ a' w', Sim c ((e.apply (runP (fun i => listed.getD i false) 0 es m0)).st n df next ys kt) a' w' → wpAnyIn (FF ro) 0 P .any l.toArray Q fuel (listed.setIfInBounds i true) a' w' := by
    intro a' w' hs'
    refine ih _ a' w' (by simpa using hsz) ?_ ?_ (himp a' w' hs')
    ·intro j o2 e2 ho2 he2 hb2 hj
     rw [hset] at hj ⊢
     by_cases hon : e2.on = i
     ·rw [if_pos hon]
     ·rw [if_neg hon]
      by_cases hji : j = i
      ·subst hji
       rw [ho'] at ho2; cases ho2
       exact hafter e2 he2 hb2
      ·rw [if_neg hji] at hj
       exact hd j o2 e2 ho2 he2 hb2 hj
    ·have hsub : ((List.range l.length).filter fun j => !(listed.setIfInBounds i true).getD j true).length + 1 ≤ ((List.range l.length).filter fun j => !listed.getD j true).length := by
      have hg : ∀ j, j < l.length → (listed.setIfInBounds i true).getD j true = if j = i then true else listed.getD j true := by
       intro j hj
       rw [getD_tf _ j (by simp; omega), hset, getD_tf listed j (by omega)]
      have e1 : ((List.range l.length).filter fun j => !(listed.setIfInBounds i true).getD j true) = ((List.range l.length).filter fun j => !listed.getD j true).filter fun j => !(decide (j = i)) := by
       rw [List.filter_filter]
       refine List.filter_congr fun j hj => ?_
       rw [hg j (by simpa using hj)]
       by_cases hji : j = i <;> simp [hji]
      rw [e1]
      have hmem : i ∈ (List.range l.length).filter fun j => !listed.getD j true := List.mem_filter.2 ⟨by simpa using hil, by simp [h2]⟩
      generalize ((List.range l.length).filter fun j => !listed.getD j true) = L at hmem
      have : ∀ L : List Nat, i ∈ L → (L.filter fun j => !(decide (j = i))).length + 1 ≤ L.length := by
       intro L
       induction L with
       | nil => intro h; simp at h
       | cons x L ihL =>
        intro h
        by_cases hxi : x = i
        ·subst hxi
         have := List.length_filter_le (fun j => !(decide (j = x))) L
         simp; omega
        ·rcases List.mem_cons.1 h with h | h
         ·exact absurd h.symm hxi
         ·have := ihL h
          simp [hxi]; omega
      exact this L hmem
     omega
   obtain ⟨O, θ, hsAt⟩ := hs
   unfold wpOpIn
   rw [ho]
   rcases hstep with ⟨hg, hop⟩ | ⟨hg, hkt, heq⟩
   ·simp only [guard_wanted hsAt hg, if_true]
    exact hop a w ⟨O, θ, hsAt⟩ _ _ hnext
   ·simp only [guard_wanted hsAt hg, Bool.false_eq_true, if_false]
    refine ⟨fun f _ => trivial, hnext _ _ ?_⟩
    rw [heq]
    exact ⟨O, θ, hsAt.skipU _ (ktB_spec hkt)⟩
 rintro a w ⟨O, θ, hs⟩
 refine wpIn_region_any hm (key l.toArray.size _ a _ (by simp) ?_ ?_ ?_)
 ·intro j o e ho he hb hj
  simp [Array.getElem?_replicate] at hj
  split at hj <;> simp at hj
 ·have := List.length_filter_le (fun i => !(Array.replicate l.toArray.size false).getD i true) (List.range l.length)
  simpa using this
 ·have : runP (fun i => (Array.replicate l.toArray.size false).getD i false) 0 es m0 = m0 := by
   rw [runP_congr (q := fun _ => false) es 0 m0 (fun j _ => by simp [Array.getElem?_replicate]; split <;> rfl), runP_none]
  rw [this]
  exact ⟨O, θ, hs.grownNone ⟨rfl, rfl, rfl, Nat.le_refl _, fun _ _ _ => rfl⟩⟩
theorem dr_nil2 {id n next ys : Nat} {kt : List Nat} {df : List Deferred} {l : List Oper} {m0 m : Mid} {es : List Eff} (p q hid : Nat) (bE : Blk) {ep eq2 : Eff} {op : Oper} (hm : P.follows .mixedOrders = true) (hs0 : s = m0.st n df next ys kt) (hp : es.reverse[p]? = some ep) (hq : es.reverse[q]? = some eq2) (hpq : Nat.blt p q = true) (hop : l[p]? = some op)
  (hx : exB hid ep eq2 = true) (hlook : look hid eq2.upd = some bE) (hfact2 : ∀ m : Mid, Has { ep with hneed := [(hid, bE)] } m → StepOk ro P c l op (m.st n df next ys kt) ((ep.apply m).st n df next ys kt)) (hB : orderXB p q l es.reverse = true)
  (h : Post c Q .normal (m.st n df next ys kt)) : DrW ro P c Q s id l n df next ys kt m0 es [] m := by
 rintro ⟨pre, h1, h2⟩ h3 h4
 have hF := h2 [] [] trivial
 have hT := h3 [] trivial
 rw [List.append_nil] at h1 hT
 rw [List.append_nil, List.append_nil, ← h1] at hF
 exact aw_drawn2 es.reverse m0 p q hid bE hp hq (by simpa [Nat.blt_eq] using hpq) hop hx hlook hfact2 hm hs0 hF hT hB (by rw [h4]; exact h)
end
end Go.Abs

